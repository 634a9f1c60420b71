/- Part 3 of what is common to several claims of this seat: DeskNewL. -/
import Derived.Test.YtndbbbnofmlkdaaLA2
import Derived.Below
import Derived.Deep.Draws
import Derived.Deep.AppendLies
import Derived.Maps.AppendAt
import Derived.OwnWalk
import Derived.Laws.BytesArg
import Derived.Laws.MakeOwn
import Derived.Laws.OwnMore
import Derived.Deep.OwnRows
import Derived.Tactics
import Derived.Lib.ConvBytes
import Derived.Laws.Slices
import Derived.WalkKit
import Derived.KernelRfl
import Derived.RowKit3
import Derived.Deep.LoopGhost
import Derived.Deep.QuietTactic
import Derived.BigQuiet
import Derived.WideLaws
import Derived.Deep.DeepCutAuto
import Derived.Deep.CutBlock
import Derived.Deep.RegionHeld3
import Derived.Laws.Rows
import Derived.Lib.AppendStr
import Derived.ArgAppend
import Derived.Laws.IdiomCopy
import Derived.RowKit
import Derived.OrdersHeld
import Derived.Laws.BitsLemmas
import Derived.Test.YtndbbbnofmlkdaaProg
set_option linter.all false
section
namespace Go.Proofs.Ytndbbbnofmlkdaa
section
variable {p : Prop}
open Go.RowKit Go.Proofs.YtndbbbnofmlkdaaW.PrintWords Go.Proofs.YtndbbbnofmlkdaaW.PrintLast
theorem zqm {p : Prop} (h : p) : Aside0 p := Aside0.mk h
theorem zqp {P : Program} {ops : Array Oper} {Q : Exit → Act → World → Prop} {md : Region.Mode} {S : World → Prop} {ds : List Nat} {T : Bool × List (List Nat × List Nat)} {oi : Oper} {v : Value} {fuel : Nat} {l : Array Bool} {a a' : Act} {w : World} (i n : Nat) (l' : Array Bool) (HT : Aside0 (rtab md ops = T)) (h : wpAnyLast P md ops Q S ds fuel l' a' w) (hi : ops[i]? = some oi := by exact rfl) (hN : oi.dst = some n := by exact rfl) (hc : anyT T l.toList l'.toList i = true := by kernel_rfl) (hQ : ∀ c a w, Q (.panic c) (a.put oi.dst v) w → Q (.panic c) a w := by exact fun _ _ _ h => h) (hw : Region.wanted oi (yielded ops a.tmps) = true := by rfl) (hr : ∀ w', (execOp a.eval oi).run P w' = .ok (.value v) w' := by intro w'; go_simp; with_reducible rfl) (ha : a.put (some n) v = a' := by simp only [Act.put, List.setIfInBounds_toArray, List.set_cons_zero, List.set_cons_succ, i64_w, i32_w]; rfl) : wpAnyLast P md ops Q S ds (fuel + 1) l a w :=
  pure_ l' hi hN (any_of HT.out hc) hQ (Or.inl ⟨hw, hr⟩) ha h
theorem zqw {P : Program} {ops : Array Oper} {Q : Exit → Act → World → Prop} {md : Region.Mode} {S : World → Prop} {ds : List Nat} {T : Bool × List (List Nat × List Nat)} {oi : Oper} {v : Value} {fuel : Nat} {l : Array Bool} {a a' : Act} {w : World} (i n : Nat) (l' : Array Bool) (HT : Aside0 (rtab md ops = T)) {B : List Nat} (HW : Aside0 (waitsOk T.2 B = true)) (hS : S w) (h : wpAnyLast P md ops Q S ds fuel l' a' w) (hi : ops[i]? = some oi := by exact rfl) (hN : oi.dst = some n := by exact rfl) (hc : takeW T B ds l.toList l'.toList i = true := by kernel_rfl) (hQ : ∀ c a w, Q (.panic c) (a.put oi.dst v) w → Q (.panic c) a w := by exact fun _ _ _ h => h) (hw : Region.wanted oi (yielded ops a.tmps) = true := by rfl) (hr : ∀ w', S w' → (execOp a.eval oi).run P w' = .ok (.value v) w' := by intro w' hs_; (repeat obtain ⟨_, hs_⟩ := hs_); go_simp; with_reducible rfl) (ha : a.put (some n) v = a' := by simp only [Act.put, List.setIfInBounds_toArray, List.set_cons_zero, List.set_cons_succ, i64_w, i32_w]; rfl) : wpAnyLast P md ops Q S ds (fuel + 1) l a w :=
  take_ l' hi hN (take_ofW HT.out HW.out hc) hQ (Or.inl ⟨hw, hr⟩) hS ha h
theorem zqe {p q : Prop} (a : p) (h : p → q := by intro h_; (with_reducible repeat (first | refine blk_drewN ?_ _ | refine blk_drew ?_ | refine blk_alloc ?_ _)); exact h_) : q := h a
theorem zqfS {p q : Prop} (a : p) (h : p → q := by intro h_; (with_reducible repeat (first | apply Kd.S_alloc | apply Kd.S_drewN | apply Kd.S_drew)); exact h_) : q := h a
theorem zqfR {p q : Prop} (a : p) (h : p → q := by intro h_; (with_reducible repeat (first | apply Kd.R_alloc | apply Kd.R_drewN | apply Kd.R_drew)); exact h_) : q := h a
theorem zqy {α : Type} {y z : α} {P Q : Prop} (h : y = z) (H : P) (k : y = z → P → Q := by intro h H; first | (rw [h]; with_reducible exact H) | (have hv := (Option.bind_some _ _).symm.trans H; rw [h]; with_reducible exact hv) | (have hv := (Option.bind_some _ _).symm.trans H; with_reducible exact hv) | with_reducible exact H | (rw [h]; exact H) | exact H) : Q := k h H
def zqb (n k : Nat) : Array Bool := ((List.range n).map fun i => Nat.testBit k i).toArray
theorem zqk (h:p:=by kernel_rfl):p:=h
theorem zqo [Decidable p] (h:decide p=true:=by first|(with_reducible assumption)|assumption):p:=of_decide_eq_true h
theorem zqs {p : Prop} (h : p := by simp only [Act.put, List.setIfInBounds_toArray, List.set_cons_zero, List.set_cons_succ, i64_w, i32_w]; rfl) : p := h
theorem zq0 (h:p:=by repeat(first|(with_reducible first|exact HB.out|apply below_alloc|apply pw_below_drewN|apply below_drew1)|exact HB.out)):p:=h
theorem zq1 (h:p:=by repeat(first|(with_reducible first|exact HB.out|apply below_alloc|apply pw_below_drewN|apply below_drew1|refine below_set ?_ a4.out)|exact HB.out)):p:=h
theorem zq2 (h:p:=by (try simp only [List.map_toArray,List.map_cons,List.map_nil]);first|done|rfl|(simp only [List.length_drop,List.length_take];rfl)):p:=h
theorem zq3 (h:p:=by repeat(first|(with_reducible first|exact HB.out|apply below_alloc|apply pw_below_drewN|apply below_drew1|refine below_set ?_ a9.out|refine below_set ?_ b2.out)|exact HB.out)):p:=h
theorem zq4 (h:p:=by repeat (first | (with_reducible first | exact HB.out | apply below_alloc | apply pw_below_drewN | apply below_drew1 | refine below_set ?_ GE1123.out | refine below_set ?_ GE1124.out) | exact HB.out)):p:=h
theorem zq5 (h:p:=by first|rfl|(simp [errW_none,errW_some] <;> rfl)|(simp [*,errW_none,errW_some] <;> rfl)):p:=h
theorem zq6 (h:p:=by first|(go_simp;done)|(go_simp;rfl)):p:=h
theorem zq7 (h:p:=by first|rfl|(simp;done)|(simp [*];done)):p:=h
theorem zq8 (h:p:=by repeat(first|(with_reducible first|exact HB.out|apply below_alloc|apply pw_below_drewN|apply below_drew1|refine below_set ?_ a4.out|refine below_set ?_ a5.out)|exact HB.out)):p:=h
theorem zq9 (h:p:=by repeat(first|(with_reducible first|exact HB.out|apply below_alloc|apply pw_below_drewN|apply below_drew1|refine below_set ?_ a3.out)|exact HB.out)):p:=h
theorem zq10 (h:p:=by repeat(first|(with_reducible first|exact HB.out|apply below_alloc|apply pw_below_drewN|apply below_drew1|refine below_set ?_ a3.out|refine below_set ?_ a8.out)|exact HB.out)):p:=h
theorem zq11 (h:p:=by repeat(first|exact Drawn0.refl _|apply Drawn0.step)):p:=h
theorem zq12 (h:p:=by first|exact Kd.R_nil _ _ _ _ _|exact Kd.N_nil _ _ _ _ _|exact Kd.V_nil _ _ _ _ _|exact Kd.Q_nil _ _ _ _ _|exact Kd.S_nil _ _ _ _ _):p:=h
theorem zq13 (h:p:=by refine zqfR ?_;exact Kd.R_mono (Kd.R_far (p:=⟨a2,2,none⟩) (Kd.R_far (p:=⟨a2,1,none⟩) (Kd.R_far (p:=⟨a2,0,none⟩) (Kd.R_far (p:=⟨a3,1,none⟩) (Kd.R_far (p:=⟨a3,0,none⟩) (Kd.R_types (Kd.R_types a9.out a6.out (by decide)) a1.out (by decide)) (fun _ hk=>hk.1.2) (.slice b4 a7.length b5)) (fun _ hk=>hk.1.2) (.slice b2 b0.length b3)) (fun _ hk=>hk.2) (.slice b4 a7.length b5)) (fun _ hk=>hk.2) (.slice b2 b0.length b3)) (fun _ hk=>hk.2) (.slice none 0 0)) (fun _ hk=>trivial)):p:=h
theorem zq14 (h:p:=by refine zqfS ?_;exact Kd.S_mono (Kd.S_far (p:=⟨a2,2,none⟩) (Kd.S_far (p:=⟨a2,1,none⟩) (Kd.S_far (p:=⟨a2,0,none⟩) (Kd.S_far (p:=⟨a3,1,none⟩) (Kd.S_far (p:=⟨a3,0,none⟩) (Kd.S_types (Kd.S_types a8.out a6.out (by decide)) a1.out (by decide)) (fun _ hk=>hk.1.2) (.slice b4 a7.length b5)) (fun _ hk=>hk.1.2) (.slice b2 b0.length b3)) (fun _ hk=>hk.2) (.slice b4 a7.length b5)) (fun _ hk=>hk.2) (.slice b2 b0.length b3)) (fun _ hk=>hk.2) (.slice none 0 0)) (fun _ hk=>hk.1.1)):p:=h
theorem zq15 (h:p:=by repeat(first|(with_reducible first|exact HB.out|apply below_alloc|apply pw_below_drewN|apply below_drew1|refine below_set ?_ GE.out)|exact HB.out)):p:=h
theorem zq16 (h:p:=by repeat(first|(with_reducible first|exact HB.out|apply below_alloc|apply pw_below_drewN|apply below_drew1|refine below_set ?_ a9.out)|exact HB.out)):p:=h
theorem zq17 (h:p:=by repeat(first|exact a3.out|(with_reducible refine Kd.C_alloc ?_ _)|(with_reducible refine Kd.C_drewN ?_ _)|(with_reducible refine Kd.C_drew ?_))):p:=h
theorem zq18 (h:p:=by repeat(first|exact a4.out|(with_reducible refine Kd.C_alloc ?_ _)|(with_reducible refine Kd.C_drewN ?_ _)|(with_reducible refine Kd.C_drew ?_))):p:=h
theorem zq19 (h:p:=by refine zqe ?_;refine blk_put (cs:= #[.slice b4 a7.length b5,.slice b2 b0.length b3,.slice none 0 0]) ?_ 2 _ rfl;refine zqe ?_;refine blk_put (cs:= #[.slice b4 a7.length b5,.slice none 0 0,.slice none 0 0]) ?_ 1 _ rfl;refine zqe ?_;refine blk_put (cs:= #[.slice none 0 0,.slice none 0 0,.slice none 0 0]) ?_ 0 _ rfl;refine zqe ?_;refine blk_far ?_ a5.out _;refine zqe ?_;refine blk_far ?_ a5.out _;refine zqe ?_;exact a1.out):p:=h
theorem zq20 (h:p:=by rw [hw];exact Kd.R_far (p:=⟨g5,2,none⟩) (Kd.R_far (p:=⟨g5,1,none⟩) (Kd.R_far (p:=⟨g5,0,none⟩) HR0.out (fun k hk=>Nat.ne_of_lt (Nat.lt_of_lt_of_le hk (Nat.le_trans HSE.out (Nat.le_trans HEE.out HYZ.out)))) _) (fun k hk=>Nat.ne_of_lt (Nat.lt_of_lt_of_le hk (Nat.le_trans HSE.out (Nat.le_trans HEE.out HYZ.out)))) _) (fun k hk=>Nat.ne_of_lt (Nat.lt_of_lt_of_le hk (Nat.le_trans HSE.out (Nat.le_trans HEE.out HYZ.out)))) _):p:=h
theorem zq21 (h:p:=by rw [hw];exact Kd.S_far (p:=⟨g5,2,none⟩) (Kd.S_far (p:=⟨g5,1,none⟩) (Kd.S_far (p:=⟨g5,0,none⟩) HS0.out (fun k hk=>Nat.ne_of_lt (Nat.lt_of_lt_of_le hk (Nat.le_trans HSE.out (Nat.le_trans HEE.out HYZ.out)))) _) (fun k hk=>Nat.ne_of_lt (Nat.lt_of_lt_of_le hk (Nat.le_trans HSE.out (Nat.le_trans HEE.out HYZ.out)))) _) (fun k hk=>Nat.ne_of_lt (Nat.lt_of_lt_of_le hk (Nat.le_trans HSE.out (Nat.le_trans HEE.out HYZ.out)))) _):p:=h
theorem zq22 (h:p:=by repeat(first|exact(Kd.C_below a8.out HB.out)|(with_reducible refine Kd.C_alloc ?_ _)|(with_reducible refine Kd.C_drewN ?_ _)|(with_reducible refine Kd.C_drew ?_))):p:=h
theorem zq23 (h:p:=by repeat(first|exact(Kd.C_below b3.out HB.out)|(with_reducible refine Kd.C_alloc ?_ _)|(with_reducible refine Kd.C_drewN ?_ _)|(with_reducible refine Kd.C_drew ?_))):p:=h
theorem zq24 (h:p:=by refine zqe ?_;refine blk_put (cs:= #[.slice none 0 0,.slice none 0 0,.slice none 0 0]) ?_ 2 _ rfl;refine zqe ?_;refine blk_put (cs:= #[.slice none 0 0,.slice none 0 0,.slice none 0 0]) ?_ 1 _ rfl;refine zqe ?_;refine blk_put (cs:= #[.slice none 0 0,.slice none 0 0,.slice none 0 0]) ?_ 0 _ rfl;refine zqe ?_;refine blk_far ?_ a5.out _;refine zqe ?_;refine blk_far ?_ a5.out _;refine zqe ?_;exact a1.out):p:=h
theorem zq25 (h:p:=by exact(below_size (by repeat(first|(with_reducible first|exact HB.out|apply below_alloc|apply pw_below_drewN|apply below_drew1|refine below_set ?_ a9.out|refine below_set ?_ b2.out)|exact HB.out)))):p:=h
theorem zq26 (h:p:=by exact(by repeat(first|(with_reducible first|exact HB.out|apply below_alloc|apply pw_below_drewN|apply below_drew1|refine below_set ?_ a9.out|refine below_set ?_ b2.out)|exact HB.out))):p:=h
theorem zq27 (h:p:=by repeat(first|(with_reducible first|exact HB.out|apply below_alloc|apply pw_below_drewN|apply below_drew1|refine below_set ?_ a4.out|refine below_set ?_ b6.out)|exact HB.out)):p:=h
theorem zq28 (h:p:=by repeat(first|exact(Kd.C_below c0.out (by repeat(first|(with_reducible first|exact HB.out|apply below_alloc|apply pw_below_drewN|apply below_drew1|refine below_set ?_ a3.out|refine below_set ?_ a8.out)|exact HB.out)))|(with_reducible refine Kd.C_alloc ?_ _)|(with_reducible refine Kd.C_drewN ?_ _)|(with_reducible refine Kd.C_drew ?_))):p:=h
theorem zq29 (h:p:=by repeat(first|exact(Kd.C_below c1.out (by repeat(first|(with_reducible first|exact HB.out|apply below_alloc|apply pw_below_drewN|apply below_drew1|refine below_set ?_ a3.out|refine below_set ?_ a8.out)|exact HB.out)))|(with_reducible refine Kd.C_alloc ?_ _)|(with_reducible refine Kd.C_drewN ?_ _)|(with_reducible refine Kd.C_drew ?_))):p:=h
theorem zq30 (h:p:=by repeat (first | (with_reducible first | exact HB.out | apply below_alloc | apply pw_below_drewN | apply below_drew1) | exact HB.out)):p:=h
theorem zq31 (h:p:=by repeat(first|exact(Kd.C_below b1.out (by repeat(first|(with_reducible first|exact HB.out|apply below_alloc|apply pw_below_drewN|apply below_drew1|refine below_set ?_ a4.out)|exact HB.out)))|(with_reducible refine Kd.C_alloc ?_ _)|(with_reducible refine Kd.C_drewN ?_ _)|(with_reducible refine Kd.C_drew ?_))):p:=h
theorem zq32 (h:p:=by rw [hw];exact Kd.R_far (p:=⟨g5,2,none⟩) (Kd.R_far (p:=⟨g5,1,none⟩) (Kd.R_far (p:=⟨g5,0,none⟩) HR1.out (fun k hk=>Nat.ne_of_lt (Nat.lt_of_lt_of_le hk.2.2 HYZ.out)) _) (fun k hk=>Nat.ne_of_lt (Nat.lt_of_lt_of_le hk.2.2 HYZ.out)) _) (fun k hk=>Nat.ne_of_lt (Nat.lt_of_lt_of_le hk.2.2 HYZ.out)) _):p:=h
theorem zq33 (h:p:=by rw [hw];exact Kd.S_far (p:=⟨g5,2,none⟩) (Kd.S_far (p:=⟨g5,1,none⟩) (Kd.S_far (p:=⟨g5,0,none⟩) HS1.out (fun k hk=>Nat.ne_of_lt (Nat.lt_of_lt_of_le hk.2.2 HYZ.out)) _) (fun k hk=>Nat.ne_of_lt (Nat.lt_of_lt_of_le hk.2.2 HYZ.out)) _) (fun k hk=>Nat.ne_of_lt (Nat.lt_of_lt_of_le hk.2.2 HYZ.out)) _):p:=h
theorem zq34 (h:p:=by rw [hw];exact Kd.R_far (p:=⟨g3,2,none⟩) (Kd.R_far (p:=⟨g3,1,none⟩) (Kd.R_far (p:=⟨g3,0,none⟩) HR0.out (fun k hk=>Nat.ne_of_lt (Nat.lt_of_lt_of_le hk HXZ.out)) _) (fun k hk=>Nat.ne_of_lt (Nat.lt_of_lt_of_le hk HXZ.out)) _) (fun k hk=>Nat.ne_of_lt (Nat.lt_of_lt_of_le hk HXZ.out)) _):p:=h
theorem zq35 (h:p:=by rw [hw];exact Kd.R_far (p:=⟨g9,2,none⟩) (Kd.R_far (p:=⟨g9,1,none⟩) (Kd.R_far (p:=⟨g9,0,none⟩) HR2.out (fun k hk=>Nat.ne_of_lt (Nat.lt_of_lt_of_le hk HWZ.out)) _) (fun k hk=>Nat.ne_of_lt (Nat.lt_of_lt_of_le hk HWZ.out)) _) (fun k hk=>Nat.ne_of_lt (Nat.lt_of_lt_of_le hk HWZ.out)) _):p:=h
theorem zq36 (h:p:=by rw [hw];exact Kd.S_far (p:=⟨g3,2,none⟩) (Kd.S_far (p:=⟨g3,1,none⟩) (Kd.S_far (p:=⟨g3,0,none⟩) HS0.out (fun k hk=>Nat.ne_of_lt (Nat.lt_of_lt_of_le hk HXZ.out)) _) (fun k hk=>Nat.ne_of_lt (Nat.lt_of_lt_of_le hk HXZ.out)) _) (fun k hk=>Nat.ne_of_lt (Nat.lt_of_lt_of_le hk HXZ.out)) _):p:=h
theorem zq37 (h:p:=by rw [hw];exact Kd.S_far (p:=⟨g9,2,none⟩) (Kd.S_far (p:=⟨g9,1,none⟩) (Kd.S_far (p:=⟨g9,0,none⟩) HS2.out (fun k hk=>Nat.ne_of_lt (Nat.lt_of_lt_of_le hk HWZ.out)) _) (fun k hk=>Nat.ne_of_lt (Nat.lt_of_lt_of_le hk HWZ.out)) _) (fun k hk=>Nat.ne_of_lt (Nat.lt_of_lt_of_le hk HWZ.out)) _):p:=h
theorem zq38 (h:p:=by first|exact Kd.S_nil _ _ _ _ _|exact Kd.N_nil _ _ _ _ _|exact Kd.V_nil _ _ _ _ _|exact Kd.Q_nil _ _ _ _ _|exact Kd.R_nil _ _ _ _ _):p:=h
theorem zq39 (h:p:=by repeat (first | (with_reducible first | exact HB.out | apply below_alloc | apply pw_below_drewN | apply below_drew1 | refine below_set ?_ GE1123.out) | exact HB.out)):p:=h
theorem zq40 (h:p:=by repeat(first|exact(Kd.C_below a9.out HB.out)|(with_reducible refine Kd.C_alloc ?_ _)|(with_reducible refine Kd.C_drewN ?_ _)|(with_reducible refine Kd.C_drew ?_))):p:=h
theorem zq41 (h:p:=by repeat(first|exact(Kd.C_below b0.out HB.out)|(with_reducible refine Kd.C_alloc ?_ _)|(with_reducible refine Kd.C_drewN ?_ _)|(with_reducible refine Kd.C_drew ?_))):p:=h
theorem zq42 (h:p:=by repeat(first|exact(Kd.C_below b2.out HB.out)|(with_reducible refine Kd.C_alloc ?_ _)|(with_reducible refine Kd.C_drewN ?_ _)|(with_reducible refine Kd.C_drew ?_))):p:=h
theorem zq43 (h:p:=by repeat(first|exact(Kd.C_below b8.out HB.out)|(with_reducible refine Kd.C_alloc ?_ _)|(with_reducible refine Kd.C_drewN ?_ _)|(with_reducible refine Kd.C_drew ?_))):p:=h
theorem zq44 (h:p:=by repeat(first|exact(Kd.C_below b9.out HB.out)|(with_reducible refine Kd.C_alloc ?_ _)|(with_reducible refine Kd.C_drewN ?_ _)|(with_reducible refine Kd.C_drew ?_))):p:=h
theorem zq45 (h:p:=by repeat(first|exact(Kd.C_below c0.out HB.out)|(with_reducible refine Kd.C_alloc ?_ _)|(with_reducible refine Kd.C_drewN ?_ _)|(with_reducible refine Kd.C_drew ?_))):p:=h
theorem zq46 (h:p:=by repeat(first|exact(Kd.C_below c1.out HB.out)|(with_reducible refine Kd.C_alloc ?_ _)|(with_reducible refine Kd.C_drewN ?_ _)|(with_reducible refine Kd.C_drew ?_))):p:=h
theorem zq47 (h:p:=by repeat(first|(with_reducible first|exact HK.out|apply Kept.alloc|apply Kept.drewN|apply Kept.drew)|exact HK.out)):p:=h
theorem zq48 (h:p:=by exact (below_size (by repeat (first | (with_reducible first | exact HB.out | apply below_alloc | apply pw_below_drewN | apply below_drew1 | refine below_set ?_ GE1123.out | refine below_set ?_ GE1124.out) | exact HB.out)))):p:=h
theorem zq49 (h:p:=by repeat(first|exact b0.out|(with_reducible refine Kd.C_alloc ?_ _)|(with_reducible refine Kd.C_drewN ?_ _)|(with_reducible refine Kd.C_drew ?_))):p:=h
theorem zq50 (h:p:=by exact (by repeat (first | (with_reducible first | exact HB.out | apply below_alloc | apply pw_below_drewN | apply below_drew1 | refine below_set ?_ GE1123.out | refine below_set ?_ GE1124.out) | exact HB.out))):p:=h
theorem zq51 (h:p:=by refine zqfS ?_; exact Kd.S_mono HO_1125000.out (fun _ hk => by first | exact ⟨hk.2, hk.1⟩ | exact hk)):p:=h
theorem zq52 (h:p:=by rw [hw];exact Kd.R_far (p:=⟨g9,2,none⟩) (Kd.R_far (p:=⟨g9,1,none⟩) (Kd.R_far (p:=⟨g9,0,none⟩) HR1.out (fun k hk=>HK1.out k hk.2.2) _) (fun k hk=>HK1.out k hk.2.2) _) (fun k hk=>HK1.out k hk.2.2) _):p:=h
theorem zq53 (h:p:=by rw [hw];exact Kd.S_far (p:=⟨g9,2,none⟩) (Kd.S_far (p:=⟨g9,1,none⟩) (Kd.S_far (p:=⟨g9,0,none⟩) HS1.out (fun k hk=>HK1.out k hk.2.2) _) (fun k hk=>HK1.out k hk.2.2) _) (fun k hk=>HK1.out k hk.2.2) _):p:=h
theorem zq54 (h:p:=by refine zqe ?_;refine blk_put (cs:= #[.slice none 0 0,.slice none 0 0]) ?_ 1 _ rfl;refine zqe ?_;refine blk_put (cs:= #[.slice none 0 0,.slice none 0 0]) ?_ 0 _ rfl;refine zqe ?_;exact BK.out):p:=h
theorem zq55 (h:p:=by refine zqfS ?_;exact Kd.S_mono HO_103000.out (fun _ hk=>⟨hk.2,hk.1⟩)):p:=h
theorem zq56 (h:p:=by repeat(first|exact(Kd.C_below a5.out HB.out)|(with_reducible refine Kd.C_alloc ?_ _)|(with_reducible refine Kd.C_drewN ?_ _)|(with_reducible refine Kd.C_drew ?_))):p:=h
theorem zq57 (h:p:=by repeat(first|exact(Kd.C_below a6.out HB.out)|(with_reducible refine Kd.C_alloc ?_ _)|(with_reducible refine Kd.C_drewN ?_ _)|(with_reducible refine Kd.C_drew ?_))):p:=h
theorem zq58 (h:p:=by repeat(first|exact(Kd.C_below a7.out HB.out)|(with_reducible refine Kd.C_alloc ?_ _)|(with_reducible refine Kd.C_drewN ?_ _)|(with_reducible refine Kd.C_drew ?_))):p:=h
theorem zq59 (h:p:=by repeat(first|exact(Kd.C_below d0.out HB.out)|(with_reducible refine Kd.C_alloc ?_ _)|(with_reducible refine Kd.C_drewN ?_ _)|(with_reducible refine Kd.C_drew ?_))):p:=h
theorem zq60 (h:p:=by repeat(first|exact(Kd.C_below d1.out HB.out)|(with_reducible refine Kd.C_alloc ?_ _)|(with_reducible refine Kd.C_drewN ?_ _)|(with_reducible refine Kd.C_drew ?_))):p:=h
theorem zq61 (h:p:=by first | rfl | (simp; done) | (simp [*]; done)):p:=h
theorem zq62 (h:p:=by exact fun x y b W he hW=>by obtain rfl:=Option.some.inj he;exact sets_c1 x y W):p:=h
theorem zq63 (h:p:=by (try simp only [List.map_toArray,List.map_cons,List.map_nil]);first|done|rfl):p:=h
theorem zq64 (h:p:=by first | (with_reducible assumption) | assumption):p:=h
theorem zq65 (h:p:=by repeat(first|exact a8.out|(with_reducible refine Kd.C_alloc ?_ _)|(with_reducible refine Kd.C_drewN ?_ _)|(with_reducible refine Kd.C_drew ?_))):p:=h
theorem zq66 (h:p:=by repeat(first|exact d1.out|(with_reducible refine Kd.C_alloc ?_ _)|(with_reducible refine Kd.C_drewN ?_ _)|(with_reducible refine Kd.C_drew ?_))):p:=h
theorem zq67 (h:p:=by rw [hw];exact Kd.R_far (p:=⟨g9,2,none⟩) (Kd.R_far (p:=⟨g9,1,none⟩) (Kd.R_far (p:=⟨g9,0,none⟩) HR0.out HK0.out _) HK0.out _) HK0.out _):p:=h
theorem zq68 (h:p:=by rw [hw];exact Kd.S_far (p:=⟨g9,2,none⟩) (Kd.S_far (p:=⟨g9,1,none⟩) (Kd.S_far (p:=⟨g9,0,none⟩) HS0.out HK0.out _) HK0.out _) HK0.out _):p:=h
theorem zq69 (h:p:=by (try simp only [List.map_toArray, List.map_cons, List.map_nil]); first | done | rfl):p:=h
theorem zq70 (h:p:=by exact(fun k_ hk=>Kd.fresh' (Kd.R_lt (zqfR HO_103001.out)) k_ hk)):p:=h
theorem zq71 (h:p:=by have:=d5.out;have:=d6.out;omega):p:=h
theorem zq72 (h:p:=by rw [hg];exact below_size HB.out):p:=h
theorem zq73 (h:p:=by refine zqfR ?_;exact Kd.R_mono HO_103001.out (fun _ hk=>hk.2)):p:=h
theorem zq74 (h:p:=by refine zqe ?_; refine blk_far ?_ NB1123_1124.out _; refine zqe ?_; exact BK1123.out):p:=h
theorem zq75 (h:p:=by repeat(first|exact HB.out|apply below_alloc|apply pw_below_drewN|apply below_drew1)):p:=h
theorem zq76 (h:p:=by rw [hg_];exact HBo.out.size):p:=h
theorem zq77 (h:p:=by have:=HSE.out;have:=HEE.out;have:=HYZ.out;have:=HYE.out;have:=HWZ.out;omega):p:=h
theorem zq78 (h:p:=by have:=HXE.out;have:=HEE.out;have:=HYZ.out;have:=HYE.out;have:=HWZ.out;omega):p:=h
theorem zq79 (h:p:=by refine zqfR ?_;exact Kd.R_mono HO_103001.out (fun _ hk=>⟨trivial,hk⟩)):p:=h
theorem zq80 (h:p:=by refine zqe ?_;refine blk_far ?_ b1.out _;refine zqe ?_;exact a2.out):p:=h
theorem zq81 (h:p:=by first | (go_simp; done) | (go_simp; rfl)):p:=h
theorem zq82 (h:p:=by have := HK1.out; have := HK2.out; omega):p:=h
end
end Go.Proofs.Ytndbbbnofmlkdaa
end
section
namespace Go.Proofs.Ytndbbbnofmlkdaa.Print
open Go.RowKit Go.Proofs.YtndbbbnofmlkdaaW.PrintWords Go.Proofs.YtndbbbnofmlkdaaW.PrintLast Go.Proofs.YtndbbbnofmlkdaaW.PrintMore
section
attribute [local go_sem] max2_int min2_int max_two min_two max_three min_three max_four min_four
def errW : Option Int → Value
 | none => .nilIface
 | some c => .iface 0 (.int .i64 c)
theorem errW_none : errW none = .nilIface := rfl
theorem errW_some (c : Int) : errW (some c) = .iface 0 (.int .i64 c) := rfl
theorem info3 : (Try.prog.info? 3).map (fun i => (i.zero, i.size, i.bytes)) = some (some (.int .i64 0), 1, 8) := by kernel_rfl
theorem info23 : (Try.prog.info? 23).map (fun i => (i.zero, i.size, i.bytes)) = some (some (.slice none 0 0), 1, 24) := by kernel_rfl
def rd_L1 (xs : List (List Int)) (i : Int) : (List Int) := xs.getD i.toNat ([] : List Int)
theorem at_L1 {w : World} {A : Option Addr} {n : Nat} {xs : List (List Int)} (h : Kd.C (Kd.slice 3 (Kd.int .i64)) w A n xs) (i : Int) (h0 : 0 ≤ i) (h1 : i < n) : ∃ ad A0 c0, A = some ad ∧ w.cell? (ad.add i.toNat) = some (.slice A0 (rd_L1 xs i).length c0) ∧ (rd_L1 xs i).length ≤ c0 ∧ (Kd.int .i64).C w A0 (rd_L1 xs i).length (rd_L1 xs i) := by
 obtain ⟨ad, c, e, _, hK, hc0⟩ := Kd.C_get h ([] : List Int) i h0 h1
 have hc : ∀ j u, c[j]? = some u → w.cell? (ad.add (i.toNat * 1 + j)) = some u := hc0
 obtain ⟨A0, c0, rfl, l0, g0⟩ := hK
 exact ⟨ad, A0, c0, e, by have hq := hc 0 _ rfl; rwa [Nat.mul_one, Nat.add_zero] at hq, l0, g0⟩
structure S25 where
 f0 : (List (List Int))
 f1 : (List Int)
def z25 : S25 := ⟨([] : List (List Int)), ([] : List Int)⟩
def k25 : Kd S25 := Kd.iso (Kd.pair (Kd.slice 23 (Kd.slice 3 (Kd.int .i64))) (Kd.slice 3 (Kd.int .i64))) (fun x : S25 => (x.f0, x.f1))
theorem k25_open {w : World} {x : S25} {cs : List Value} (h : k25.K w x cs) : ∃ A0 c0 A1 c1, cs = [.slice A0 x.f0.length c0, .slice A1 x.f1.length c1] ∧ x.f0.length ≤ c0 ∧ (Kd.slice 3 (Kd.int .i64)).C w A0 x.f0.length x.f0 ∧ x.f1.length ≤ c1 ∧ (Kd.int .i64).C w A1 x.f1.length x.f1 := by
 obtain ⟨_, _, rfl, ⟨A0, c0, rfl, l0, g0⟩, ⟨A1, c1, rfl, l1, g1⟩⟩ := h
 exact ⟨A0, c0, A1, c1, rfl, l0, g0, l1, g1⟩
def rd_T25 (xs : List S25) (i : Int) : S25 := xs.getD i.toNat z25
theorem at_T25 {w : World} {A : Option Addr} {n : Nat} {xs : List S25} (h : Kd.C k25 w A n xs) (i : Int) (h0 : 0 ≤ i) (h1 : i < n) : ∃ ad A0 c0 A1 c1, A = some ad ∧ w.cell? (ad.add (i.toNat * 2)) = some (.slice A0 (rd_T25 xs i).f0.length c0) ∧ w.cell? ⟨(ad.add (i.toNat * 2)).block, (ad.add (i.toNat * 2)).off + 1, none⟩ = some (.slice A1 (rd_T25 xs i).f1.length c1) ∧ (rd_T25 xs i).f0.length ≤ c0 ∧ (Kd.slice 3 (Kd.int .i64)).C w A0 (rd_T25 xs i).f0.length (rd_T25 xs i).f0 ∧ (rd_T25 xs i).f1.length ≤ c1 ∧ (Kd.int .i64).C w A1 (rd_T25 xs i).f1.length (rd_T25 xs i).f1 := by
 obtain ⟨ad, c, e, _, hK, hc0⟩ := Kd.C_get h z25 i h0 h1
 have hc : ∀ j u, c[j]? = some u → w.cell? (ad.add (i.toNat * 2 + j)) = some u := hc0
 obtain ⟨A0, c0, A1, c1, rfl, l0, g0, l1, g1⟩ := k25_open hK
 exact ⟨ad, A0, c0, A1, c1, e, hc 0 _ rfl, by rw [← add_field _ _ 1 (by omega)]; exact hc 1 _ rfl, l0, g0, l1, g1⟩
end
end Go.Proofs.Ytndbbbnofmlkdaa.Print
end
section
namespace Oml
def at1 (N : List Int) (a : Nat) : Int := N.getD a 0
def at2 (U : List (List Int)) (a b : Nat) : Int := (U.getD a []).getD b 0
def leB (U : List (List Int)) (a b : Nat) : Bool := at2 U a b == 1
def allN (n : Nat) (p : Nat → Bool) : Bool := (List.range n).all p
def findN (n : Nat) (p : Nat → Bool) : Option Nat := (List.range n).find? p
def meetP (U : List (List Int)) (a b c : Nat) : Bool := leB U c a && (leB U c b && allN U.length fun d => !(leB U d a && leB U d b) || leB U d c)
def joinP (U : List (List Int)) (a b c : Nat) : Bool := leB U a c && (leB U b c && allN U.length fun d => !(leB U a d && leB U b d) || leB U c d)
def meetO (U : List (List Int)) (a b : Nat) : Option Nat := findN U.length (meetP U a b)
def joinO (U : List (List Int)) (a b : Nat) : Option Nat := findN U.length (joinP U a b)
def leastO (U : List (List Int)) : Option Nat := findN U.length fun a => allN U.length fun b => leB U a b
def optI (o : Option Nat) : Int := match o with | some m => (m : Int) | none => -1
end Oml
end
section
namespace Go.Proofs.Ytndbbbnofmlkdaa.Print
open Go.RowKit Go.Proofs.YtndbbbnofmlkdaaW.PrintWords Go.Proofs.YtndbbbnofmlkdaaW.PrintLast Go.Proofs.YtndbbbnofmlkdaaW.PrintMore
open Oml
def mI (U : List (List Int)) (a b : Nat) : Int := optI (meetO U a b)
def jI (U : List (List Int)) (a b : Nat) : Int := optI (joinO U a b)
def AlgAt (W : World) (g : Nat) (U A O : List (List Int)) (N : List Int) (no yes : Int) : Prop :=
 ∃A0 c0 A1 c1 A2 c2 A3 c3,W.heap[g]? =some (.cells #[.slice A0 U.length c0,.slice A1 A.length c1,.slice A2 O.length c2,.slice A3 N.length c3,.int .i64 no,.int .i64 yes] 72 (0,0))∧
  (U.length≤c0∧A.length≤c1∧O.length≤c2∧N.length≤c3)∧Kd.C (Kd.slice 3 (Kd.int .i64)) W A0 U.length U∧Kd.C (Kd.slice 3 (Kd.int .i64)) W A1 A.length A∧Kd.C (Kd.slice 3 (Kd.int .i64)) W A2 O.length O∧Kd.C (Kd.int .i64) W A3 N.length N
theorem AlgAt.below {W W1 : World} {g : Nat} {U A O : List (List Int)} {N : List Int} {no yes : Int} (h : AlgAt W g U A O N no yes) (hb : Below W.heap.size W W1) : AlgAt W1 g U A O N no yes := by
 obtain⟨A0,c0,A1,c1,A2,c2,A3,c3,h1,hc,k0,k1,k2,k3⟩:=h
 exact⟨A0,c0,A1,c1,A2,c2,A3,c3,blk_below h1 hb,hc,Kd.C_below k0 hb,Kd.C_below k1 hb,Kd.C_below k2 hb,Kd.C_below k3 hb⟩
theorem cell_up {w W : World} {B : Nat} {a : Addr} {v : Value} (h : w.cell? a = some v) (hb : Below B w W) (hB : B = w.heap.size) : W.cell? a = some v := by
 subst hB
 exact(hb.cell (World.block_lt_of_cell? w a h)).trans h
theorem wrap_nat {i : Nat} (h : i < 4611686018427387904) : wrap64 ((i : Int) + 1) = ((i + 1 : Nat) : Int) := by unfold wrap64; omega
theorem Ev.succ {α : Type} {g : Nat → Option α} {r : α} (h : Ev (fun k => g (k + 1)) r) : Ev g r := Ev.step (fun _ => rfl) h
theorem Ev.ite_pos {α : Type} {c : Prop} [Decidable c] {a b : Nat → Option α} {r : α} (h : c) (k : Ev a r) : Ev (fun n => if c then a n else b n) r := by simpa only [if_pos h] using k
theorem Ev.ite_neg {α : Type} {c : Prop} [Decidable c] {a b : Nat → Option α} {r : α} (h : ¬ c) (k : Ev b r) : Ev (fun n => if c then a n else b n) r := by simpa only [if_neg h] using k
theorem Ev.ip {α : Type} {c : Prop} [Decidable c] {a b : Nat → Option α} {r : α} (k : Ev a r) (h : c := by first | assumption | (focus omega) | (simp <;> fail)) : Ev (fun n => if c then a n else b n) r := Ev.ite_pos h k
theorem Ev.iq {α : Type} {c : Prop} [Decidable c] {a b : Nat → Option α} {r : α} (k : Ev b r) (h : ¬ c := by first | assumption | (focus omega) | (simp <;> fail)) : Ev (fun n => if c then a n else b n) r := Ev.ite_neg h k
end Go.Proofs.Ytndbbbnofmlkdaa.Print
end
section
namespace Go.Proofs.Ytndbbbnofmlkdaa.Print
open Go.RowKit Go.Proofs.YtndbbbnofmlkdaaW.PrintWords Go.Proofs.YtndbbbnofmlkdaaW.PrintLast Go.Proofs.YtndbbbnofmlkdaaW.PrintMore
section
attribute [local go_sem] max2_int min2_int max_two min_two max_three min_three max_four min_four
def laws_eqIntS.l0 : Nat → List Int → List Int → Int → Option (Bool)
 | 0, _, _, _ => none
 | k + 1, x0, x1, x5 => if x5 < (x0.length : Int) then (if 0 ≤ x5 then (if x5 < (x1.length : Int) then (if (rd x0 x5) = (rd x1 x5) then (laws_eqIntS.l0 k x0 x1 (wrap64 (x5 + 1))) else (some false)) else (none)) else (none)) else (some true)
def laws_eqIntS.f (k : Nat) (l0 : List Int) (l1 : List Int) : Option (Bool) := if (l0.length : Int) = (l1.length : Int) then (laws_eqIntS.l0 k l0 l1 0) else (some false)
set_option maxHeartbeats 8000000 in
set_option maxRecDepth 100000 in
theorem laws_eqIntS.calls (k : Nat) (A0 : Option Addr) (c0 : Nat) (l0 : List Int) (A1 : Option Addr) (c1 : Nat) (l1 : List Int) (r : Bool) (w : World) (hr0 : Kd.C (Kd.int .i64) w A0 l0.length l0) (hc0 : l0.length ≤ c0) (hr1 : Kd.C (Kd.int .i64) w A1 l1.length l1) (hc1 : l1.length ≤ c1) (h : laws_eqIntS.f k l0 l1 = some r) :
  Calls Try.prog 35 #[.slice A0 l0.length c0, .slice A1 l1.length c1] w fun e w' => e = .returned (.bool r) ∧ Drawn0 w w' := by
 have b5:=zqm hr0;have c9:=zqm hc0;clear hr0 hc0;have b6:=zqm hr1;have d0:=zqm hc1;clear hr1 hc1;have H:(if(l0.length:Int)=(l1.length:Int) then(laws_eqIntS.l0 k l0 l1 0) else(some false))=some r:=h;clear h
 by_cases c3:(l0.length:Int)=(l1.length:Int)
 ·rw [if_pos c3] at H;have a9:((l0.length:Int)==(l1.length:Int))=true:=beq_iff_eq.mpr c3;have b0:((l0.length:Int) !=(l1.length:Int))=false:=bne_eq_false_iff_eq.mpr c3;(have b1:(l0.length==l1.length)=true:=by first|simpa using c3|(simp at c3 ⊢;omega));clear c3;have H':=zqm H;clear H
  go_enter Try.func35,Try.ntmps35
  go_wp2
  repeat(go_quiet (fail);try go_wp2)
  go_loopg [5] k (fun kq v5 w'=> ∃(a0:Int),v5= .int .i64 a0∧Aside0 (laws_eqIntS.l0 kq l0 l1 a0=some r)∧Aside0 (kq≤k)∧Drawn0 w w')
  case atStart=>exact⟨(0),zq7,H',⟨Nat.le_refl _⟩,zq11⟩
  case round=>
   clear H';(try clear c1);(try clear p2);(try clear c3);(try clear a9);(try clear b0);(try clear b1);obtain⟨a0,rfl,HA,b4,⟨m1,rfl⟩⟩:=hrel
   cases gk with
   |zero=>exact absurd HA.out (by simp [laws_eqIntS.l0])
   |succ k1=>
    have H:=HA.out;clear HA;simp only [laws_eqIntS.l0] at H
    by_cases c4:a0<(l0.length:Int)
    ·rw [if_pos c4] at H;have b7:decide (a0<(l0.length:Int))=true:=decide_eq_true c4;clear c4
     by_cases c5:0≤a0
     ·rw [if_pos c5] at H;have c2:decide (0≤a0)=true:=decide_eq_true c5;clear c5
      by_cases c6:a0<(l1.length:Int)
      ·rw [if_pos c6] at H;have c8:decide (a0<(l1.length:Int))=true:=decide_eq_true c6;clear c6
       by_cases c7:(rd l0 a0)=(rd l1 a0)
       ·rw [if_pos c7] at H;have b8:((rd l0 a0)==(rd l1 a0))=true:=beq_iff_eq.mpr c7;have b9:((rd l0 a0) !=(rd l1 a0))=false:=bne_eq_false_iff_eq.mpr c7;clear c7;have H':=zqm H;clear H;have a1:0≤(a0:Int):=zqo;have a3:a0<(l0.length:Int):=zqo;obtain⟨b2,a5,a7⟩:=Kd.at_int b5.out a0 a1 a3
        cases a5
        replace a1:=eq_true a1;replace a3:=eq_true a3;have a2:0≤(a0:Int):=zqo;have a4:a0<(l1.length:Int):=zqo;obtain⟨b3,a6,a8⟩:=Kd.at_int b6.out a0 a2 a4
        cases a6
        replace a2:=eq_true a2;replace a4:=eq_true a4
        go_wp2
        repeat(go_quiet (fail);try go_wp2)
        go_roundg k1
        (case measure=>have:=b4.out;omega);case rel=>exact⟨(wrap64 (a0+1)),zq7,H',⟨by have:=b4.out;omega⟩,zq11⟩
       ·rw [if_neg c7] at H;have b8:((rd l0 a0)==(rd l1 a0))=false:=beq_eq_false_iff_ne.mpr c7;have b9:((rd l0 a0) !=(rd l1 a0))=true:=bne_iff_ne.mpr c7;obtain rfl:=Option.some.inj H;have a1:0≤(a0:Int):=zqo;have a3:a0<(l0.length:Int):=zqo;obtain⟨b2,a5,a7⟩:=Kd.at_int b5.out a0 a1 a3
        cases a5
        replace a1:=eq_true a1;replace a3:=eq_true a3;have a2:0≤(a0:Int):=zqo;have a4:a0<(l1.length:Int):=zqo;obtain⟨b3,a6,a8⟩:=Kd.at_int b6.out a0 a2 a4
        cases a6
        replace a2:=eq_true a2;replace a4:=eq_true a4
        go_wp2
        repeat(go_quiet (fail);try go_wp2)
        go_ret
        exact⟨zq7,zq11⟩
      ·rw [if_neg c6] at H;exact absurd H (by simp)
     ·rw [if_neg c5] at H;exact absurd H (by simp)
    ·rw [if_neg c4] at H;have b7:decide (a0<(l0.length:Int))=false:=decide_eq_false c4;clear c4;obtain rfl:=Option.some.inj H
     go_wp2
     repeat(go_quiet (fail);try go_wp2)
     go_ret
     exact⟨zq7,zq11⟩
 ·rw [if_neg c3] at H;have a9:((l0.length:Int)==(l1.length:Int))=false:=beq_eq_false_iff_ne.mpr c3;have b0:((l0.length:Int) !=(l1.length:Int))=true:=bne_iff_ne.mpr c3;(have b1:(l0.length==l1.length)=false:=by first|simpa using c3|(simp at c3 ⊢;omega));obtain rfl:=Option.some.inj H
  go_enter Try.func35,Try.ntmps35
  go_wp2
  repeat(go_quiet (fail);try go_wp2)
  go_ret
  exact⟨zq7,zq11⟩
end
section
attribute [local go_sem] max2_int min2_int max_two min_two max_three min_three max_four min_four
def laws_eqIntSS.l0 : Nat → List (List Int) → List (List Int) → Int → Option (Bool)
 | 0, _, _, _ => none
 | k + 1, x0, x1, x5 => if x5 < (x0.length : Int) then (if 0 ≤ x5 then (if x5 < (x1.length : Int) then ((laws_eqIntS.f k (rd_L1 x0 x5) (rd_L1 x1 x5)).bind fun t141 => (if t141 = true then (laws_eqIntSS.l0 k x0 x1 (wrap64 (x5 + 1))) else (some false))) else (none)) else (none)) else (some true)
def laws_eqIntSS.f (k : Nat) (l0 : List (List Int)) (l1 : List (List Int)) : Option (Bool) := if (l0.length : Int) = (l1.length : Int) then (laws_eqIntSS.l0 k l0 l1 0) else (some false)
set_option maxHeartbeats 8000000 in
set_option maxRecDepth 100000 in
theorem laws_eqIntSS.calls (k : Nat) (A0 : Option Addr) (c0 : Nat) (l0 : List (List Int)) (A1 : Option Addr) (c1 : Nat) (l1 : List (List Int)) (r : Bool) (w : World) (hr0 : Kd.C (Kd.slice 3 (Kd.int .i64)) w A0 l0.length l0) (hc0 : l0.length ≤ c0) (hr1 : Kd.C (Kd.slice 3 (Kd.int .i64)) w A1 l1.length l1) (hc1 : l1.length ≤ c1) (h : laws_eqIntSS.f k l0 l1 = some r) :
  Calls Try.prog 34 #[.slice A0 l0.length c0, .slice A1 l1.length c1] w fun e w' => e = .returned (.bool r) ∧ Drawn0 w w' := by
 have d5:=zqm hr0;have e1:=zqm hc0;clear hr0 hc0;have d6:=zqm hr1;have e2:=zqm hc1;clear hr1 hc1;have H:(if(l0.length:Int)=(l1.length:Int) then(laws_eqIntSS.l0 k l0 l1 0) else(some false))=some r:=h;clear h
 by_cases c3:(l0.length:Int)=(l1.length:Int)
 ·rw [if_pos c3] at H;have c7:((l0.length:Int)==(l1.length:Int))=true:=beq_iff_eq.mpr c3;have c9:((l0.length:Int) !=(l1.length:Int))=false:=bne_eq_false_iff_eq.mpr c3;(have d0:(l0.length==l1.length)=true:=by first|simpa using c3|(simp at c3 ⊢;omega));clear c3;have H':=zqm H;clear H
  go_enter Try.func34,Try.ntmps34
  go_wp2
  repeat(go_quiet (fail);try go_wp2)
  go_loopg [5] k (fun kq v5 w'=> ∃(a0:Int),v5= .int .i64 a0∧Aside0 (laws_eqIntSS.l0 kq l0 l1 a0=some r)∧Aside0 (kq≤k)∧Drawn0 w w')
  case atStart=>exact⟨(0),zq7,H',⟨Nat.le_refl _⟩,zq11⟩
  case round=>
   clear H';(try clear c1);(try clear p2);(try clear c3);(try clear c7);(try clear c9);(try clear d0);obtain⟨a0,rfl,HA,d4,⟨m1,rfl⟩⟩:=hrel
   cases gk with
   |zero=>exact absurd HA.out (by simp [laws_eqIntSS.l0])
   |succ k1=>
    have H:=HA.out;clear HA;simp only [laws_eqIntSS.l0] at H
    by_cases c4:a0<(l0.length:Int)
    ·rw [if_pos c4] at H;have d7:decide (a0<(l0.length:Int))=true:=decide_eq_true c4;clear c4
     by_cases c5:0≤a0
     ·rw [if_pos c5] at H;have d9:decide (0≤a0)=true:=decide_eq_true c5;clear c5
      by_cases c6:a0<(l1.length:Int)
      ·rw [if_pos c6] at H;have e0:decide (a0<(l1.length:Int))=true:=decide_eq_true c6;clear c6;replace H:=Option.bind_eq_some_iff.mp H;obtain⟨d8,d3,H⟩:=H;(try dsimp only at H);have A7:=zqm d3;clear d3
       by_cases c8:d8=true
       ·subst c8;rw [if_pos rfl] at H;have H':=zqm H;clear H;have a9:0≤(a0:Int):=zqo;have b1:a0<(l0.length:Int):=zqo;obtain⟨d1,b7,b9,b3,b5,a7,a5⟩:=at_L1 d5.out a0 a9 b1
        cases b3
        have a3:=zqm a5;have a1:=zqm a7;clear a5 a7;replace a9:=eq_true a9;replace b1:=eq_true b1;have b0:0≤(a0:Int):=zqo;have b2:a0<(l1.length:Int):=zqo;obtain⟨d2,b8,c2,b4,b6,a8,a6⟩:=at_L1 d6.out a0 b0 b2
        cases b4
        have a4:=zqm a6;have a2:=zqm a8;clear a6 a8;replace b0:=eq_true b0;replace b2:=eq_true b2
        go_wp2_with (first|(go_at_call 35;(with_reducible refine(laws_eqIntS.calls k1 _ _ (rd_L1 l0 a0) _ _ (rd_L1 l1 a0) true _ ?side1 ?side2 ?side3 ?side4 A7.out).mono ?_);(case side1=> exact zq17);(case side2=>exact a1.out);(case side3=> exact zq18);(case side4=>exact a2.out);rintro e w' ⟨rfl,⟨nd,rfl⟩⟩;(try first|exact⟨rfl,_,World.drewN_drewN _ _ _⟩|exact⟨rfl,_,Eq.trans (World.drewN_drewN _ _ _) (congrArg (World.drewN _) (Nat.add_assoc _ _ _))⟩)))
        repeat(go_quiet (first|(go_at_call 35;(with_reducible refine(laws_eqIntS.calls k1 _ _ (rd_L1 l0 a0) _ _ (rd_L1 l1 a0) true _ ?side1 ?side2 ?side3 ?side4 A7.out).mono ?_);(case side1=> exact zq17);(case side2=>exact a1.out);(case side3=> exact zq18);(case side4=>exact a2.out);rintro e w' ⟨rfl,⟨nd,rfl⟩⟩;(try first|exact⟨rfl,_,World.drewN_drewN _ _ _⟩|exact⟨rfl,_,Eq.trans (World.drewN_drewN _ _ _) (congrArg (World.drewN _) (Nat.add_assoc _ _ _))⟩)));try go_wp2_with (first|(go_at_call 35;(with_reducible refine(laws_eqIntS.calls k1 _ _ (rd_L1 l0 a0) _ _ (rd_L1 l1 a0) true _ ?side1 ?side2 ?side3 ?side4 A7.out).mono ?_);(case side1=> exact zq17);(case side2=>exact a1.out);(case side3=> exact zq18);(case side4=>exact a2.out);rintro e w' ⟨rfl,⟨nd,rfl⟩⟩;(try first|exact⟨rfl,_,World.drewN_drewN _ _ _⟩|exact⟨rfl,_,Eq.trans (World.drewN_drewN _ _ _) (congrArg (World.drewN _) (Nat.add_assoc _ _ _))⟩))))
        go_roundg k1
        (case measure=>have:=d4.out;omega);case rel=>exact⟨(wrap64 (a0+1)),zq7,H',⟨by have:=d4.out;omega⟩,zq11⟩
       ·replace c8:=Bool.eq_false_iff.mpr c8;subst c8;rw [if_neg (show¬(false=true) by decide)] at H;obtain rfl:=Option.some.inj H;have a9:0≤(a0:Int):=zqo;have b1:a0<(l0.length:Int):=zqo;obtain⟨d1,b7,b9,b3,b5,a7,a5⟩:=at_L1 d5.out a0 a9 b1
        cases b3
        have a3:=zqm a5;have a1:=zqm a7;clear a5 a7;replace a9:=eq_true a9;replace b1:=eq_true b1;have b0:0≤(a0:Int):=zqo;have b2:a0<(l1.length:Int):=zqo;obtain⟨d2,b8,c2,b4,b6,a8,a6⟩:=at_L1 d6.out a0 b0 b2
        cases b4
        have a4:=zqm a6;have a2:=zqm a8;clear a6 a8;replace b0:=eq_true b0;replace b2:=eq_true b2
        go_wp2_with (first|(go_at_call 35;(with_reducible refine(laws_eqIntS.calls k1 _ _ (rd_L1 l0 a0) _ _ (rd_L1 l1 a0) false _ ?side1 ?side2 ?side3 ?side4 A7.out).mono ?_);(case side1=> exact zq17);(case side2=>exact a1.out);(case side3=> exact zq18);(case side4=>exact a2.out);rintro e w' ⟨rfl,⟨nd,rfl⟩⟩;(try first|exact⟨rfl,_,World.drewN_drewN _ _ _⟩|exact⟨rfl,_,Eq.trans (World.drewN_drewN _ _ _) (congrArg (World.drewN _) (Nat.add_assoc _ _ _))⟩)))
        repeat(go_quiet (first|(go_at_call 35;(with_reducible refine(laws_eqIntS.calls k1 _ _ (rd_L1 l0 a0) _ _ (rd_L1 l1 a0) false _ ?side1 ?side2 ?side3 ?side4 A7.out).mono ?_);(case side1=> exact zq17);(case side2=>exact a1.out);(case side3=> exact zq18);(case side4=>exact a2.out);rintro e w' ⟨rfl,⟨nd,rfl⟩⟩;(try first|exact⟨rfl,_,World.drewN_drewN _ _ _⟩|exact⟨rfl,_,Eq.trans (World.drewN_drewN _ _ _) (congrArg (World.drewN _) (Nat.add_assoc _ _ _))⟩)));try go_wp2_with (first|(go_at_call 35;(with_reducible refine(laws_eqIntS.calls k1 _ _ (rd_L1 l0 a0) _ _ (rd_L1 l1 a0) false _ ?side1 ?side2 ?side3 ?side4 A7.out).mono ?_);(case side1=> exact zq17);(case side2=>exact a1.out);(case side3=> exact zq18);(case side4=>exact a2.out);rintro e w' ⟨rfl,⟨nd,rfl⟩⟩;(try first|exact⟨rfl,_,World.drewN_drewN _ _ _⟩|exact⟨rfl,_,Eq.trans (World.drewN_drewN _ _ _) (congrArg (World.drewN _) (Nat.add_assoc _ _ _))⟩))))
        go_ret
        exact⟨zq7,zq11⟩
      ·rw [if_neg c6] at H;exact absurd H (by simp)
     ·rw [if_neg c5] at H;exact absurd H (by simp)
    ·rw [if_neg c4] at H;have d7:decide (a0<(l0.length:Int))=false:=decide_eq_false c4;clear c4;obtain rfl:=Option.some.inj H
     go_wp2
     repeat(go_quiet (fail);try go_wp2)
     go_ret
     exact⟨zq7,zq11⟩
 ·rw [if_neg c3] at H;have c7:((l0.length:Int)==(l1.length:Int))=false:=beq_eq_false_iff_ne.mpr c3;have c9:((l0.length:Int) !=(l1.length:Int))=true:=bne_iff_ne.mpr c3;(have d0:(l0.length==l1.length)=false:=by first|simpa using c3|(simp at c3 ⊢;omega));obtain rfl:=Option.some.inj H
  go_enter Try.func34,Try.ntmps34
  go_wp2
  repeat(go_quiet (fail);try go_wp2)
  go_ret
  exact⟨zq7,zq11⟩
end
section
attribute [local go_sem] max2_int min2_int max_two min_two max_three min_three max_four min_four
def laws_eqLogic.f (k : Nat) (l0_0 : List (List Int)) (l0_1 : List Int) (l1_0 : List (List Int)) (l1_1 : List Int) : Option (Bool) := (laws_eqIntSS.f k l0_0 l1_0).bind fun t144 => (if t144 = true then ((laws_eqIntS.f k l0_1 l1_1).bind fun t145 => (if t145 = true then (some true) else (some false))) else (some false))
set_option maxHeartbeats 8000000 in
set_option maxRecDepth 100000 in
theorem laws_eqLogic.calls (k : Nat) (A0_0 : Option Addr) (c0_0 : Nat) (l0_0 : List (List Int)) (A0_1 : Option Addr) (c0_1 : Nat) (l0_1 : List Int) (A1_0 : Option Addr) (c1_0 : Nat) (l1_0 : List (List Int)) (A1_1 : Option Addr) (c1_1 : Nat) (l1_1 : List Int) (r : Bool) (w : World) (hr0_0 : Kd.C (Kd.slice 3 (Kd.int .i64)) w A0_0 l0_0.length l0_0) (hc0_0 : l0_0.length ≤ c0_0) (hr0_1 : Kd.C (Kd.int .i64) w A0_1 l0_1.length l0_1) (hc0_1 : l0_1.length ≤ c0_1) (hr1_0 : Kd.C (Kd.slice 3 (Kd.int .i64)) w A1_0 l1_0.length l1_0) (hc1_0 : l1_0.length ≤ c1_0) (hr1_1 : Kd.C (Kd.int .i64) w A1_1 l1_1.length l1_1) (hc1_1 : l1_1.length ≤ c1_1) (h : laws_eqLogic.f k l0_0 l0_1 l1_0 l1_1 = some r) :
  Calls Try.prog 16 #[.agg #[.slice A0_0 l0_0.length c0_0, .slice A0_1 l0_1.length c0_1], .agg #[.slice A1_0 l1_0.length c1_0, .slice A1_1 l1_1.length c1_1]] w fun e w' => e = .returned (.bool r) ∧ Below w.heap.size w w' := by
 have hu25:=Try.underlying25;have b2:=zqm hr0_0;have b0:=zqm hc0_0;clear hr0_0 hc0_0;have c0:=zqm hr0_1;have b8:=zqm hc0_1;clear hr0_1 hc0_1;have b3:=zqm hr1_0;have b1:=zqm hc1_0;clear hr1_0 hc1_0;have c1:=zqm hr1_1;have b9:=zqm hc1_1;clear hr1_1 hc1_1;have HB:=zqm (Below.refl w.heap.size w);have H:((laws_eqIntSS.f k l0_0 l1_0).bind fun b4=>(if b4=true then((laws_eqIntS.f k l0_1 l1_1).bind fun b5=>(if b5=true then(some true) else(some false))) else(some false)))=some r:=h;clear h;replace H:=Option.bind_eq_some_iff.mp H;obtain⟨b4,c5,H⟩:=H;(try dsimp only at H);have A3:=zqm c5;clear c5
 by_cases c4:b4=true
 ·subst c4;rw [if_pos rfl] at H;replace H:=Option.bind_eq_some_iff.mp H;obtain⟨b5,c7,H⟩:=H;(try dsimp only at H);have A5:=zqm c7;clear c7
  by_cases c6:b5=true
  ·subst c6;rw [if_pos rfl] at H;obtain rfl:=Option.some.inj H
   go_enter Try.func16,Try.ntmps16
   go_wp2_with (first|((with_reducible refine gate_dst (N:=2) rfl ?_);refine box_event ?hg (N:=2) ?hd (cs:= #[.slice A0_0 l0_0.length c0_0,.slice A0_1 l0_1.length c0_1]) (t:=25) ?hr ?_;(case hd=>rfl);(case hg=>rfl);(case hr=> exact zq6);intro a1 hg w7 hbox hb;have a7:=zqm (below_step zq0 hb);have a0:=zqm (hbox);have b6:=zqm ((by rw [hg];exact(below_size zq0):w.heap.size≤a1));have a3:=zqm ((by rw [hg];exact(below_size zq0):w.heap.size≤a1));clear HB;have HB:=a7;clear a7 hb hbox hg)|((with_reducible refine gate_dst (N:=3) rfl ?_);refine box_event ?hg (N:=3) ?hd (cs:= #[.slice A1_0 l1_0.length c1_0,.slice A1_1 l1_1.length c1_1]) (t:=25) ?hr ?_;(case hd=>rfl);(case hg=>rfl);(case hr=> exact zq6);intro a2 hg w8 hbox hb;have a7:=zqm (blk_below (g:=a1) (o:= .cells #[.slice A0_0 l0_0.length c0_0,.slice A0_1 l0_1.length c0_1] 25 (0,0)) (zqe a0.out) hb);have a9:=zqm (below_step zq9 hb);have a4:=zqm (hbox);have b7:=zqm ((by rw [hg];exact(below_size zq9):w.heap.size≤a2));have a8:=zqm ((by rw [hg];exact(below_size zq9):w.heap.size≤a2));have a5:=zqm ((by rw [hg];exact Nat.ne_of_lt (blk_lt (g:=a1) (o:= .cells #[.slice A0_0 l0_0.length c0_0,.slice A0_1 l0_1.length c0_1] 25 (0,0)) (zqe a0.out)):a1≠a2));have a6:=zqm ((by rw [hg];exact Nat.ne_of_gt (blk_lt (g:=a1) (o:= .cells #[.slice A0_0 l0_0.length c0_0,.slice A0_1 l0_1.length c0_1] 25 (0,0)) (zqe a0.out)):a2≠a1));clear a0 HB;have a0:=a7;have HB:=a9;clear a7 a9 hb hbox hg;have f6:=a5.out;have f7:=a6.out;have c8:w8.cell? ⟨a1,0,none⟩=some (.slice A0_0 l0_0.length c0_0):=(blk_cell a0.out 0).trans rfl;have c9:w8.cell? ⟨a1,1,none⟩=some (.slice A0_1 l0_1.length c0_1):=(blk_cell a0.out 1).trans rfl;have e0:=blk_frozen a0.out 0;have e1:=blk_frozen a0.out 1;have d0:w8.cell? ⟨a2,0,none⟩=some (.slice A1_0 l1_0.length c1_0):=(blk_cell a4.out 0).trans rfl;have d1:w8.cell? ⟨a2,1,none⟩=some (.slice A1_1 l1_1.length c1_1):=(blk_cell a4.out 1).trans rfl;have e2:=blk_frozen a4.out 0;have e3:=blk_frozen a4.out 1)|((with_reducible refine gate_callee (f:=34) rfl ?_);refine goesL_ (some 9) rfl rfl Try.func34 zqk rfl #[.slice A0_0 l0_0.length c0_0,.slice A1_0 l1_0.length c1_0] rfl zq2 ?_;(with_reducible refine(laws_eqIntSS.calls k _ _ l0_0 _ _ l1_0 true _ ?side1 ?side2 ?side3 ?side4 A3.out).mono ?_);(case side1=> exact zq42);(case side2=>exact b0.out);(case side3=> exact zq23);(case side4=>exact b1.out);rintro e w' ⟨rfl,⟨nd,rfl⟩⟩;refine⟨_,rfl,?_⟩)|((with_reducible refine gate_callee (f:=35) rfl ?_);refine goesL_ (some 15) rfl rfl Try.func35 zqk rfl #[.slice A0_1 l0_1.length c0_1,.slice A1_1 l1_1.length c1_1] rfl zq2 ?_;(with_reducible refine(laws_eqIntS.calls k _ _ l0_1 _ _ l1_1 true _ ?side1 ?side2 ?side3 ?side4 A5.out).mono ?_);(case side1=> exact zq28);(case side2=>exact b8.out);(case side3=> exact zq29);(case side4=>exact b9.out);rintro e w' ⟨rfl,⟨nd,rfl⟩⟩;refine⟨_,rfl,?_⟩))
   go_ret
   exact⟨zq5,zq10⟩
  ·replace c6:=Bool.eq_false_iff.mpr c6;subst c6;rw [if_neg (show¬(false=true) by decide)] at H;obtain rfl:=Option.some.inj H
   go_enter Try.func16,Try.ntmps16
   go_wp2_with (first|((with_reducible refine gate_dst (N:=2) rfl ?_);refine box_event ?hg (N:=2) ?hd (cs:= #[.slice A0_0 l0_0.length c0_0,.slice A0_1 l0_1.length c0_1]) (t:=25) ?hr ?_;(case hd=>rfl);(case hg=>rfl);(case hr=> exact zq6);intro a1 hg f8 hbox hb;have a7:=zqm (below_step zq0 hb);have a0:=zqm (hbox);have b6:=zqm ((by rw [hg];exact(below_size zq0):w.heap.size≤a1));have a3:=zqm ((by rw [hg];exact(below_size zq0):w.heap.size≤a1));clear HB;have HB:=a7;clear a7 hb hbox hg)|((with_reducible refine gate_dst (N:=3) rfl ?_);refine box_event ?hg (N:=3) ?hd (cs:= #[.slice A1_0 l1_0.length c1_0,.slice A1_1 l1_1.length c1_1]) (t:=25) ?hr ?_;(case hd=>rfl);(case hg=>rfl);(case hr=> exact zq6);intro a2 hg c2 hbox hb;have a7:=zqm (blk_below (g:=a1) (o:= .cells #[.slice A0_0 l0_0.length c0_0,.slice A0_1 l0_1.length c0_1] 25 (0,0)) (zqe a0.out) hb);have a9:=zqm (below_step zq9 hb);have a4:=zqm (hbox);have b7:=zqm ((by rw [hg];exact(below_size zq9):w.heap.size≤a2));have a8:=zqm ((by rw [hg];exact(below_size zq9):w.heap.size≤a2));have a5:=zqm ((by rw [hg];exact Nat.ne_of_lt (blk_lt (g:=a1) (o:= .cells #[.slice A0_0 l0_0.length c0_0,.slice A0_1 l0_1.length c0_1] 25 (0,0)) (zqe a0.out)):a1≠a2));have a6:=zqm ((by rw [hg];exact Nat.ne_of_gt (blk_lt (g:=a1) (o:= .cells #[.slice A0_0 l0_0.length c0_0,.slice A0_1 l0_1.length c0_1] 25 (0,0)) (zqe a0.out)):a2≠a1));clear a0 HB;have a0:=a7;have HB:=a9;clear a7 a9 hb hbox hg;have f2:=a5.out;have f4:=a6.out;have d2:c2.cell? ⟨a1,0,none⟩=some (.slice A0_0 l0_0.length c0_0):=(blk_cell a0.out 0).trans rfl;have d3:c2.cell? ⟨a1,1,none⟩=some (.slice A0_1 l0_1.length c0_1):=(blk_cell a0.out 1).trans rfl;have e4:=blk_frozen a0.out 0;have e5:=blk_frozen a0.out 1;have d4:c2.cell? ⟨a2,0,none⟩=some (.slice A1_0 l1_0.length c1_0):=(blk_cell a4.out 0).trans rfl;have d5:c2.cell? ⟨a2,1,none⟩=some (.slice A1_1 l1_1.length c1_1):=(blk_cell a4.out 1).trans rfl;have e6:=blk_frozen a4.out 0;have e7:=blk_frozen a4.out 1)|((with_reducible refine gate_callee (f:=34) rfl ?_);refine goesL_ (some 9) rfl rfl Try.func34 zqk rfl #[.slice A0_0 l0_0.length c0_0,.slice A1_0 l1_0.length c1_0] rfl zq2 ?_;(with_reducible refine(laws_eqIntSS.calls k _ _ l0_0 _ _ l1_0 true _ ?side1 ?side2 ?side3 ?side4 A3.out).mono ?_);(case side1=> exact zq42);(case side2=>exact b0.out);(case side3=> exact zq23);(case side4=>exact b1.out);rintro e w' ⟨rfl,⟨nd,rfl⟩⟩;refine⟨_,rfl,?_⟩)|((with_reducible refine gate_callee (f:=35) rfl ?_);refine goesL_ (some 15) rfl rfl Try.func35 zqk rfl #[.slice A0_1 l0_1.length c0_1,.slice A1_1 l1_1.length c1_1] rfl zq2 ?_;(with_reducible refine(laws_eqIntS.calls k _ _ l0_1 _ _ l1_1 false _ ?side1 ?side2 ?side3 ?side4 A5.out).mono ?_);(case side1=> exact zq28);(case side2=>exact b8.out);(case side3=> exact zq29);(case side4=>exact b9.out);rintro e w' ⟨rfl,⟨nd,rfl⟩⟩;refine⟨_,rfl,?_⟩))
   go_ret
   exact⟨zq5,zq10⟩
 ·replace c4:=Bool.eq_false_iff.mpr c4;subst c4;rw [if_neg (show¬(false=true) by decide)] at H;obtain rfl:=Option.some.inj H
  go_enter Try.func16,Try.ntmps16
  go_wp2_with (first|((with_reducible refine gate_dst (N:=2) rfl ?_);refine box_event ?hg (N:=2) ?hd (cs:= #[.slice A0_0 l0_0.length c0_0,.slice A0_1 l0_1.length c0_1]) (t:=25) ?hr ?_;(case hd=>rfl);(case hg=>rfl);(case hr=> exact zq6);intro a1 hg f9 hbox hb;have a7:=zqm (below_step zq0 hb);have a0:=zqm (hbox);have b6:=zqm ((by rw [hg];exact(below_size zq0):w.heap.size≤a1));have a3:=zqm ((by rw [hg];exact(below_size zq0):w.heap.size≤a1));clear HB;have HB:=a7;clear a7 hb hbox hg)|((with_reducible refine gate_dst (N:=3) rfl ?_);refine box_event ?hg (N:=3) ?hd (cs:= #[.slice A1_0 l1_0.length c1_0,.slice A1_1 l1_1.length c1_1]) (t:=25) ?hr ?_;(case hd=>rfl);(case hg=>rfl);(case hr=> exact zq6);intro a2 hg c3 hbox hb;have a7:=zqm (blk_below (g:=a1) (o:= .cells #[.slice A0_0 l0_0.length c0_0,.slice A0_1 l0_1.length c0_1] 25 (0,0)) (zqe a0.out) hb);have a9:=zqm (below_step zq9 hb);have a4:=zqm (hbox);have b7:=zqm ((by rw [hg];exact(below_size zq9):w.heap.size≤a2));have a8:=zqm ((by rw [hg];exact(below_size zq9):w.heap.size≤a2));have a5:=zqm ((by rw [hg];exact Nat.ne_of_lt (blk_lt (g:=a1) (o:= .cells #[.slice A0_0 l0_0.length c0_0,.slice A0_1 l0_1.length c0_1] 25 (0,0)) (zqe a0.out)):a1≠a2));have a6:=zqm ((by rw [hg];exact Nat.ne_of_gt (blk_lt (g:=a1) (o:= .cells #[.slice A0_0 l0_0.length c0_0,.slice A0_1 l0_1.length c0_1] 25 (0,0)) (zqe a0.out)):a2≠a1));clear a0 HB;have a0:=a7;have HB:=a9;clear a7 a9 hb hbox hg;have f3:=a5.out;have f5:=a6.out;have d6:c3.cell? ⟨a1,0,none⟩=some (.slice A0_0 l0_0.length c0_0):=(blk_cell a0.out 0).trans rfl;have d7:c3.cell? ⟨a1,1,none⟩=some (.slice A0_1 l0_1.length c0_1):=(blk_cell a0.out 1).trans rfl;have e8:=blk_frozen a0.out 0;have e9:=blk_frozen a0.out 1;have d8:c3.cell? ⟨a2,0,none⟩=some (.slice A1_0 l1_0.length c1_0):=(blk_cell a4.out 0).trans rfl;have d9:c3.cell? ⟨a2,1,none⟩=some (.slice A1_1 l1_1.length c1_1):=(blk_cell a4.out 1).trans rfl;have f0:=blk_frozen a4.out 0;have f1:=blk_frozen a4.out 1)|((with_reducible refine gate_callee (f:=34) rfl ?_);refine goesL_ (some 9) rfl rfl Try.func34 zqk rfl #[.slice A0_0 l0_0.length c0_0,.slice A1_0 l1_0.length c1_0] rfl zq2 ?_;(with_reducible refine(laws_eqIntSS.calls k _ _ l0_0 _ _ l1_0 false _ ?side1 ?side2 ?side3 ?side4 A3.out).mono ?_);(case side1=> exact zq42);(case side2=>exact b0.out);(case side3=> exact zq23);(case side4=>exact b1.out);rintro e w' ⟨rfl,⟨nd,rfl⟩⟩;refine⟨_,rfl,?_⟩))
  go_ret
  exact⟨zq5,zq10⟩
end
section
attribute [local go_sem] max2_int min2_int max_two min_two max_three min_three max_four min_four
def laws_markIntS.l0 : Nat → List Int → Int → Int → Option (Int × List Int)
 | 0, _, _, _ => none
 | k + 1, x0, x1, x5 => if x5 < (x0.length : Int) then (if 0 ≤ x5 then (laws_markIntS.l0 k (x0.set (x5 : Int).toNat x1) (wrap64 (x1 + 1)) (wrap64 (x5 + 1))) else (none)) else (some (x1, x0))
def laws_markIntS.f (k : Nat) (l0 : List Int) (a1 : Int) : Option (Int × List Int) := laws_markIntS.l0 k l0 a1 0
set_option maxHeartbeats 8000000 in
set_option maxRecDepth 100000 in
theorem laws_markIntS.calls (k : Nat) (P0_ : Nat → Prop) (u9000_ : Value) (l0 : List Int) (a1 : Int) (r1 : Int) (r2 : List Int) (w0 w : World) (hB : Below w0.heap.size w0 w) (ho0 : Kd.R (Kd.int .i64) 3 w w0.heap.size P0_ u9000_ l0) (h : laws_markIntS.f k l0 a1 = some (r1, r2)) :
  Calls Try.prog 37 #[u9000_, .int .i64 a1] w fun e w' => e = .returned (.int .i64 r1) ∧ Kd.R (Kd.int .i64) 3 w' w0.heap.size (fun k_ => (P0_ k_ ∨ w.heap.size ≤ k_)) u9000_ r2 ∧ Below w0.heap.size w0 w' ∧ Kept w w' (fun k_ => P0_ k_) := by
 have b4:=zqm (show Kd.R (Kd.int .i64) 3 w w0.heap.size (fun k_=>(P0_ k_∨w.heap.size≤k_)) u9000_ l0 from Kd.R_mono ho0 (fun k_ hk=>(.inl hk)));have HK:=zqm (Kept.refl w (fun k_=>P0_ k_));have c6:=zqm hB.size;have HB:=zqm hB;clear hB;have H:(laws_markIntS.l0 k l0 a1 0)=some (r1,r2):=h;clear h;have H':=zqm H;clear H
 go_enter Try.func37,Try.ntmps37
 go_wp2
 go_loopg [1,5] k (fun kq v1 v5 w'=> ∃(a2:List Int) (a3:Int) (a0:Int),v1= .int .i64 a3∧v5= .int .i64 a0∧Aside0 (laws_markIntS.l0 kq a2 a3 a0=some (r1,r2))∧Aside0 (kq≤k)∧Aside0 (Kd.R (Kd.int .i64) 3 w' w0.heap.size (fun k_=>(P0_ k_∨w.heap.size≤k_)) u9000_ a2)∧Aside0 (Kept w w' (fun k_=>P0_ k_))∧Aside0 (Below w0.heap.size w0 w'))
 case atStart=>exact⟨(l0),(a1),(0),zq7,zq7,H',⟨Nat.le_refl _⟩,⟨zqfR b4.out⟩,⟨zq47⟩,⟨zq0⟩⟩
 case round=>
  clear H';(try clear p2);obtain⟨a2,a3,a0,rfl,rfl,HA,a9,HO_0,HK,HB⟩:=hrel
  cases gk with
  |zero=>exact absurd HA.out (by simp [laws_markIntS.l0])
  |succ k1=>
   have H:=HA.out;clear HA;simp only [laws_markIntS.l0] at H
   by_cases c3:a0<(a2.length:Int)
   ·rw [if_pos c3] at H;have b3:decide (a0<(a2.length:Int))=true:=decide_eq_true c3;clear c3
    by_cases c4:0≤a0
    ·rw [if_pos c4] at H;have c1:decide (0≤a0)=true:=decide_eq_true c4;clear c4;obtain⟨a6,a4⟩: ∃y_:List Int,y_=(a2.set (a0:Int).toNat a3):=⟨_,rfl⟩;replace H:(laws_markIntS.l0 k1 a6 (wrap64 (a3+1)) (wrap64 (a0+1)))=some (r1,r2):=zqy a4 H;have a7:=zqm a4;clear a4;have H':=zqm H;clear H;obtain⟨c2,b5,b6⟩:=Kd.R_slice HO_0.out;subst b6;have p5:0≤(a0:Int):=zqo;have q5:(a0:Int)<((a2.length:Int):Int):=zqo;obtain⟨a5,c8,b0,b1,b8,c7,a8⟩:=Kd.R_form HO_0.out (by omega);(first|cases b0|(injection b0 with ea_ en_ ec_;(first|subst ea_|(injection ea_ with ea_;subst ea_));subst ec_;clear en_));have GB5:=zqm b1;have GG5:=zqm a8;clear b1 b8 a8;have HMgo5:=zqm (show (P0_ a5∨w.heap.size≤a5) from (HO_0.out.1 _ rfl));obtain⟨c0,b9⟩:=Kd.R_celln 0 HO_0.out (a0:Int) p5 q5;replace p5:=eq_true p5;replace q5:=eq_true q5;have HP7:=Kd.R_putg HO_0.out (a0:Int) a3
     go_wp2_with (first|((with_reducible refine gate_store (t:=3) (p:=15) rfl ?_);refine store_event (t:=3) (p:=15) (v:=?vo_w8) (w1:=(wr.setCell ⟨a5,(a0:Int).toNat,none⟩ (.int .i64 a3))) ?hg ?ho ?hn ?hr ?_;(case ho=>rfl);(case hg=>rfl);(case hn=>rfl);(case hr=> exact zq6);intro w8 hw;have hg:wr.grownBy w8 (some a5):=(by rw [hw];exact HP7.2);have hp_:Kd.R (Kd.int .i64) 3 w8 w0.heap.size (fun k_=>(P0_ k_∨w.heap.size≤k_)) (.slice (some ⟨a5,0,none⟩) a2.length b5) a6:=(by rw [hw,a7.out];exact HP7.1);clear HP7;have b2:=zqm (hp_);replace HB:=zqm ((by rw [hw];exact below_set (HB.out) GB5.out:Below w0.heap.size w0 w8));replace HK:=zqm (Kept.of_grown (S:=(fun k_=>P0_ k_)) hg zq47 (fun k_ e_=>(HO_0.out.1 k_ e_)));clear HO_0;have HO_0:=b2;clear b2 hg hw hp_))
     go_roundg k1
     (case measure=>have:=a9.out;omega);case rel=>exact⟨(a6),(wrap64 (a3+1)),(wrap64 (a0+1)),zq7,zq7,H',⟨by have:=a9.out;omega⟩,⟨zqfR HO_0.out⟩,⟨zq47⟩,⟨zq0⟩⟩
    ·rw [if_neg c4] at H;exact absurd H (by simp)
   ·rw [if_neg c3] at H;have b3:decide (a0<(a2.length:Int))=false:=decide_eq_false c3;clear c3;simp only [Option.some.injEq,Prod.mk.injEq] at H;obtain⟨rfl,rfl⟩:=H;obtain⟨c5,c9,b7⟩:=Kd.R_slice HO_0.out;subst b7
    go_wp2
    go_ret
    exact⟨zq5,zqfR HO_0.out,zq0,zq47⟩
end
section
attribute [local go_sem] max2_int min2_int max_two min_two max_three min_three max_four min_four
def laws_heldIntS.l0 : Nat → List Int → Int → Int → Option (Int)
 | 0, _, _, _ => none
 | k + 1, x0, x1, x5 => if x5 < (x0.length : Int) then (if 0 ≤ x5 then (if (rd x0 x5) = x1 then (laws_heldIntS.l0 k x0 (wrap64 (x1 + 1)) (wrap64 (x5 + 1))) else (some (-1))) else (none)) else (some x1)
def laws_heldIntS.f (k : Nat) (l0 : List Int) (a1 : Int) : Option (Int) := laws_heldIntS.l0 k l0 a1 0
set_option maxHeartbeats 8000000 in
set_option maxRecDepth 100000 in
theorem laws_heldIntS.calls (k : Nat) (A0 : Option Addr) (c0 : Nat) (l0 : List Int) (a1 : Int) (r : Int) (w : World) (hr0 : Kd.C (Kd.int .i64) w A0 l0.length l0) (hc0 : l0.length ≤ c0) (h : laws_heldIntS.f k l0 a1 = some r) :
  Calls Try.prog 39 #[.slice A0 l0.length c0, .int .i64 a1] w fun e w' => e = .returned (.int .i64 r) ∧ Drawn0 w w' := by
 have HR0:=zqm hr0;have HC0:=zqm hc0;clear hr0 hc0;have H:(laws_heldIntS.l0 k l0 a1 0)=some r:=h;clear h;have H':=zqm H;clear H
 go_enter Try.func39,Try.ntmps39
 go_wp2
 go_loopg [1,5] k (fun kq v1 v5 w'=> ∃(x1_1:Int) (x5_1:Int),v1= .int .i64 x1_1∧v5= .int .i64 x5_1∧Aside0 (laws_heldIntS.l0 kq l0 x1_1 x5_1=some r)∧Aside0 (kq≤k)∧Drawn0 w w')
 case atStart=>exact⟨(a1),(0),zq7,zq7,H',⟨Nat.le_refl _⟩,zq11⟩
 case round=>
  clear H';(try clear p2);obtain⟨x1_1,x5_1,rfl,rfl,HA,HK1,⟨m1,rfl⟩⟩:=hrel
  cases gk with
  |zero=>exact absurd HA.out (by simp [laws_heldIntS.l0])
  |succ k1=>
   have H:=HA.out;clear HA;simp only [laws_heldIntS.l0] at H
   by_cases c3:x5_1<(l0.length:Int)
   ·rw [if_pos c3] at H;have c3b0:decide (x5_1<(l0.length:Int))=true:=decide_eq_true c3;clear c3
    by_cases c4:0≤x5_1
    ·rw [if_pos c4] at H;have c4b0:decide (0≤x5_1)=true:=decide_eq_true c4;clear c4
     by_cases c5:(rd l0 x5_1)=x1_1
     ·rw [if_pos c5] at H;have c5b0:((rd l0 x5_1)==x1_1)=true:=beq_iff_eq.mpr c5;have c5b1:((rd l0 x5_1) !=x1_1)=false:=bne_eq_false_iff_eq.mpr c5;clear c5;have H':=zqm H;clear H;have p158:0≤(x5_1:Int):=zqo;have q158:x5_1<(l0.length:Int):=zqo;obtain⟨ad158,e158,hx158_0⟩:=Kd.at_int HR0.out x5_1 p158 q158
      cases e158
      replace p158:=eq_true p158;replace q158:=eq_true q158
      go_wp2
      go_roundg k1
      (case measure=>have:=HK1.out;omega);case rel=>exact⟨(wrap64 (x1_1+1)),(wrap64 (x5_1+1)),zq7,zq7,H',⟨by have:=HK1.out;omega⟩,zq11⟩
     ·rw [if_neg c5] at H;have c5b0:((rd l0 x5_1)==x1_1)=false:=beq_eq_false_iff_ne.mpr c5;have c5b1:((rd l0 x5_1) !=x1_1)=true:=bne_iff_ne.mpr c5;obtain rfl:=Option.some.inj H;have p158:0≤(x5_1:Int):=zqo;have q158:x5_1<(l0.length:Int):=zqo;obtain⟨ad158,e158,hx158_0⟩:=Kd.at_int HR0.out x5_1 p158 q158
      cases e158
      replace p158:=eq_true p158;replace q158:=eq_true q158
      go_wp2
      go_ret
      exact⟨zq7,zq11⟩
    ·rw [if_neg c4] at H;exact absurd H (by simp)
   ·rw [if_neg c3] at H;have c3b0:decide (x5_1<(l0.length:Int))=false:=decide_eq_false c3;clear c3;obtain rfl:=Option.some.inj H
    go_wp2
    go_ret
    exact⟨zq7,zq11⟩
end
end Go.Proofs.Ytndbbbnofmlkdaa.Print
end
section
namespace Go.Proofs.Ytndbbbnofmlkdaa.Print
open Go.RowKit Go.Proofs.YtndbbbnofmlkdaaW.PrintWords Go.Proofs.YtndbbbnofmlkdaaW.PrintLast Go.Proofs.YtndbbbnofmlkdaaW.PrintMore
open Oml
def numL (k : Int) (n : Nat) : List Int := (List.range n).map fun (i : Nat) => k + (i : Int)
theorem numL_length (k : Int) (n : Nat) : (numL k n).length = n := by simp [numL]
theorem numL_succ (k : Int) (n : Nat) : numL k (n + 1) = numL k n ++ [k + n] := by simp [numL, List.range_succ]
def lenSum : List (List Int) → Nat
 | [] => 0
 | r :: rs => r.length + lenSum rs
def markR : List (List Int) → Int → List (List Int)
 | [], _ => []
 | r :: rs, k => numL k r.length :: markR rs (k + r.length)
theorem lenSum_append (a b : List (List Int)) : lenSum (a ++ b) = lenSum a + lenSum b := by
 induction a with
 | nil => simp [lenSum]
 | cons r rs ih => simp [lenSum, ih]; omega
theorem markR_append (a b : List (List Int)) (k : Int) : markR (a ++ b) k = markR a k ++ markR b (k + lenSum a) := by
 induction a generalizing k with
 |nil=>simp [markR,lenSum]
 |cons r rs ih=>simp only [List.cons_append,markR,lenSum,ih];congr 2;congr 1;omega
theorem markR_length (a : List (List Int)) (k : Int) : (markR a k).length = a.length := by
 induction a generalizing k with
 | nil => rfl
 | cons r rs ih => simp [markR, ih]
theorem lenSum_take_le (a : List (List Int)) (i : Nat) : lenSum (a.take i) ≤ lenSum a := by
 have := lenSum_append (a.take i) (a.drop i)
 rw [List.take_append_drop] at this
 omega
theorem lenSum_mem {a : List (List Int)} {i : Nat} (h : i < a.length) : lenSum (a.take i) + (a.getD i []).length = lenSum (a.take (i + 1)) := by
 rw [List.take_succ_eq_append_getElem h,lenSum_append]
 simp [lenSum,List.getD_eq_getElem?_getD,h]
theorem lenSum_small {U : List (List Int)} (h1 : U.length ≤ 1048576) (h2 : ∀ r ∈ U, r.length ≤ 1048576) : lenSum U ≤ 1099511627776 := by
 have key: ∀V:List (List Int),(∀r ∈ V,r.length≤1048576)→lenSum V≤V.length*1048576:=by
  intro V
  induction V with
  |nil=>intro _;simp [lenSum]
  |cons r rs ih=>
   intro h
   have h3:=h r List.mem_cons_self
   have h4:=ih fun q hq=>h q (List.mem_cons_of_mem _ hq)
   simp only [lenSum,List.length_cons]
   omega
 have:=key U h2
 have:U.length*1048576≤1048576*1048576:=Nat.mul_le_mul_right _ h1
 omega
theorem wrap_to {x : Int} (h0 : -4611686018427387904 ≤ x) (h : x < 4611686018427387904) : wrap64 x = x := by unfold wrap64; omega
theorem markIntS_ev (xs : List Int) {k : Int} (h0 : 0 ≤ k) (hk : k ≤ 1152921504606846976) (hx : xs.length ≤ 1152921504606846976) : Ev (fun n => laws_markIntS.f n xs k) (k + xs.length, numL k xs.length) := by
 unfold laws_markIntS.f
 have key: ∀d i,i+d=xs.length→Ev (fun n=>laws_markIntS.l0 n (numL k i ++ xs.drop i) (k+i) (i:Int)) (k+xs.length,numL k xs.length):=by
  intro d
  induction d with
  |zero=>
   intro i hi
   obtain rfl:i=xs.length:=by omega
   refine Ev.succ ?_
   simp only [laws_markIntS.l0,List.drop_length,List.append_nil,numL_length]
   repeat(with_reducible first|refine Ev.ip ?_|refine Ev.iq ?_)
   exact Ev.now _
  |succ d ih=>
   intro i hi
   have hlt:i<xs.length:=by omega
   have hl:(numL k i ++ xs.drop i).length=xs.length:=by rw [List.length_append,numL_length,List.length_drop];omega
   refine Ev.succ ?_
   simp only [laws_markIntS.l0,hl,Int.toNat_natCast,wrap_nat (show i<4611686018427387904 by omega)]
   repeat(with_reducible first|refine Ev.ip ?_|refine Ev.iq ?_)
   rw [wrap_to (by omega) (by omega),List.set_append_right _ _ (by rw [numL_length];omega),numL_length,Nat.sub_self,List.drop_eq_getElem_cons hlt,List.set_cons_zero]
   have:=ih (i+1) (by omega)
   rw [numL_succ,List.append_assoc] at this
   rw [show k+(i:Int)+1=k+((i+1:Nat):Int) by omega]
   exact this
 exact(by simpa [numL] using key xs.length 0 (by omega))
set_option maxHeartbeats 1000000 in
set_option maxRecDepth 100000 in
theorem markIntSS_calls (U : List (List Int)) (k0 : Int) (ok : Nat → Prop) (A : Option Addr) (c : Nat) (w0 w : World) (hB : Below w0.heap.size w0 w) (hS : Kd.S (Kd.slice 3 (Kd.int .i64)) 23 w w0.heap.size ok (.slice A U.length c) U)
 (h0:0≤k0) (hk:k0≤1125899906842624) (h1:U.length≤1048576) (h2: ∀r ∈ U,r.length≤1048576):
 Calls Try.prog 36 #[.slice A U.length c,.int .i64 k0] w fun e w'=>e= .returned (.int .i64 (k0+lenSum U))∧Kd.S (Kd.slice 3 (Kd.int .i64)) 23 w' w0.heap.size ok (.slice A U.length c) (markR U k0)∧Below w0.heap.size w0 w'∧Kept w w' ok:=by
 have HG:Aside0 (0<U.length→ ∃g,A=some ⟨g,0,none⟩):=⟨fun hp=>by
  obtain⟨g,cap,e,_⟩:=Kd.S_form hS hp
  injection e with e1
  exact⟨g,e1⟩⟩
 have HS:=zqm hS
 have HB:=zqm hB
 have HL:=zqm (lenSum_small h1 h2)
 have HR:=zqm h2
 have HK0:=zqm h0
 have HK1:=zqm hk
 clear hS hB h2 h0 hk
 go_enter Try.func36,Try.ntmps36
 go_wp2_with fail
 go_loopg [1,5] (U.length+1) (fun kq v1 v5 W=> ∃i:Nat,v1= .int .i64 (k0+lenSum (U.take i))∧v5= .int .i64 i∧Aside0 (i+kq=U.length+1)∧Aside0 (i≤U.length)∧Aside0 (Kd.S (Kd.slice 3 (Kd.int .i64)) 23 W w0.heap.size ok (.slice A U.length c) (markR (U.take i) k0 ++ U.drop i))∧Aside0 (Kept w W ok)∧Aside0 (Below w0.heap.size w0 W))
 case atStart=>exact⟨0,by simp [lenSum],rfl,⟨by omega⟩,⟨by omega⟩,⟨by simpa [markR] using HS.out⟩,⟨Kept.refl _ _⟩,HB⟩
 case round=>
  obtain⟨i,rfl,rfl,HQ,HQ2,HS1,HK2,HB1⟩:=hrel
  cases gk with
  |zero=>exact absurd HQ.out (by have:=HQ2.out;omega)
  |succ kn=>
  by_cases hlt:i<U.length
  ·have hlt':decide (i<U.length)=true:=decide_eq_true hlt
   have HLT:=zqm hlt
   obtain⟨g,hA⟩:=HG.out (by omega)
   subst hA
   obtain⟨oki,cs,hcl,hM,hcc,hoki,hH⟩:=Kd.S_lend HS1.out [] (i:Int) (by omega) (by omega)
   have hget:(markR (U.take i) k0 ++ U.drop i).getD (i:Int).toNat []=U.getD i []:=by
    have hl:(markR (U.take i) k0).length=i:=by rw [markR_length,List.length_take];omega
    rw [Int.toNat_natCast,List.getD_eq_getElem?_getD,List.getElem?_append_right (by omega),hl,Nat.sub_self,List.getElem?_drop,Nat.add_zero,← List.getD_eq_getElem?_getD]
   rw [hget] at hM
   obtain⟨row,hrow⟩: ∃row,row=U.getD i []:=⟨_,rfl⟩
   rw [← hrow] at hM
   obtain⟨vr,rfl,hR⟩:=hM
   obtain⟨Ar,cr,rfl⟩:=Kd.R_slice hR
   have hx:=hcc 0 _ rfl
   simp only [Int.toNat_natCast,Kd.slice,Nat.mul_one,Nat.add_zero] at hx
   have p1:(i<U.length)=True:=eq_true hlt
   have HH:=zqm hH
   have HO:=zqm hoki
   have HRR:=zqm hR
   have hsum:=lenSum_mem hlt
   rw [← hrow] at hsum
   have hrl:row.length≤1048576:=HR.out _ (by rw [hrow];simp [hlt])
   have hts:=lenSum_take_le U i
   obtain⟨K,hK⟩:=(markIntS_ev row (k:=k0+lenSum (U.take i)) (by have:=HK0.out;omega) (by have:=HK1.out;have:=HL.out;omega) (by omega)).rounds
   have HKF:=zqm hK
   have HSUM:=zqm hsum
   have HROW:=zqm hrow
   clear hrow hcc hH hoki hR hget hsum hts hK hrl hcl hlt
   go_wp2_with (go_at_call 37;(with_reducible refine(laws_markIntS.calls K oki _ row _ _ _ w0 _ ?sB ?sO HKF.out).mono ?_);(case sB=>exact HB1.out);(case sO=>exact HRR.out);rintro e w2 ⟨rfl,ho,hb,hk⟩;have HO2:=zqm ho;have HB2:=zqm hb;have HK3:=zqm hk;clear ho hb hk)
   go_roundg kn
   case measure=>omega
   case rel=>exact⟨i+1,by rw [← HSUM.out];congr 1;omega,by first|go_num|(rw [wrap_to (by omega) (by have:=HLT.out;omega)];go_num),⟨by have:=HQ.out;omega⟩,⟨by have:=HLT.out;omega⟩,⟨by
    have hl:(markR (U.take i) k0).length=i:=by rw [markR_length,List.length_take];have:=HLT.out;omega
    have h5:=Kd.H_back (Kd.H_kept HH.out HK3.out (fun _ _ hn=>hn)) (x':=numL (k0+lenSum (U.take i)) row.length) ⟨_,rfl,Kd.R_tight rfl HO2.out⟩ (fun k hk=>HRR.out.1 k hk.symm)
    rw [Int.toNat_natCast,List.set_append_right _ _ (by omega),hl,Nat.sub_self,List.drop_eq_getElem_cons HLT.out,List.set_cons_zero] at h5
    rw [List.take_succ_eq_append_getElem HLT.out,markR_append,List.append_assoc]
    simp only [markR,List.singleton_append]
    rw [show U[i]'HLT.out=row by rw [HROW.out];simp [List.getD_eq_getElem?_getD,HLT.out]]
    exact h5⟩,⟨HK2.out.then_ HK3.out (fun k hk=> .inl (HO.out k hk).1)⟩,HB2⟩
  ·have hlt':decide (i<U.length)=false:=decide_eq_false hlt
   obtain rfl:i=U.length:=by have:=HQ2.out;omega
   clear hlt
   go_wp2_with fail
   go_ret
   have hS:=HS1.out
   rw [List.take_length,List.drop_length,List.append_nil] at hS
   exact⟨by first|rfl|(rw [List.take_length];done)|(simp;done),hS,HB1.out,HK2.out⟩
set_option maxHeartbeats 1000000 in
set_option maxRecDepth 100000 in
theorem markLogic_calls (U : List (List Int)) (N : List Int) (k0 : Int) (ok0 ok1 : Nat → Prop) (A0 : Option Addr) (c0 : Nat) (A1 : Option Addr) (c1 : Nat) (w0 w : World) (hB : Below w0.heap.size w0 w) (hS : Kd.S (Kd.slice 3 (Kd.int .i64)) 23 w w0.heap.size ok0 (.slice A0 U.length c0) U)
 (hR:Kd.R (Kd.int .i64) 3 w w0.heap.size ok1 (.slice A1 N.length c1) N) (hd: ∀k,ok1 k→ ¬ok0 k)
 (h0:0≤k0) (hk:k0≤1099511627776) (h1:U.length≤1048576) (h2: ∀r ∈ U,r.length≤1048576) (h3:N.length≤1048576):
 Calls Try.prog 18 #[.agg #[.slice A0 U.length c0,.slice A1 N.length c1],.int .i64 k0] w fun e w'=>e= .returned (.int .i64 (k0+lenSum U+N.length))∧Kd.S (Kd.slice 3 (Kd.int .i64)) 23 w' w0.heap.size ok0 (.slice A0 U.length c0) (markR U k0)∧
  Kd.R (Kd.int .i64) 3 w' w0.heap.size ok1 (.slice A1 N.length c1) (numL (k0+lenSum U) N.length)∧Below w0.heap.size w0 w'∧Kept w w' (fun k=>ok0 k∨ok1 k):=by
 have hu30:=Try.underlying25
 have hls:=lenSum_small h1 h2
 obtain⟨K,hK⟩:=(markIntS_ev N (k:=k0+lenSum U) (by omega) (by omega) (by omega)).rounds
 have HKF:=zqm hK
 have HS:=zqm hS
 have HR:=zqm hR
 have HB:=zqm hB
 have HD:=zqm hd
 have H0:=zqm h0
 have H1:=zqm (show k0≤1125899906842624 by omega)
 have H2:=zqm h2
 have HL1:=zqm h1
 clear hK hS hR hB hd h0 hk h2 h3 hls h1
 go_enter Try.func18,Try.ntmps18
 go_wp2_with (first|((with_reducible refine gate_dst (N:=2) rfl ?_);refine box_event ?hg (N:=2) ?hd (cs:= #[.slice A0 U.length c0,.slice A1 N.length c1]) (t:=25) ?hr ?_;(case hd=>rfl);(case hg=>rfl);(case hr=>first|(go_simp;done)|(go_simp;rfl));intro gb hg_ w1 hbox hb;have HBX:=zqm hb;have HGB:=zqm hg_;have hx0:w1.cell? ⟨gb,0,none⟩=some (.slice A0 U.length c0):=(blk_cell hbox 0).trans rfl;have hx1:w1.cell? ⟨gb,1,none⟩=some (.slice A1 N.length c1):=(blk_cell hbox 1).trans rfl;have HX:=zqm hbox;clear hbox hb hg_)|(go_at_call 36;(with_reducible refine(markIntSS_calls U k0 (fun k=>ok0 k∧k<w.heap.size) A0 c0 w0 _ ?sB ?sS H0.out H1.out HL1.out H2.out).mono ?_);(case sB=>exact below_step HB.out HBX.out);(case sS=>exact Kd.S_old HS.out HBX.out);rintro e w2 ⟨rfl,hs,hb,hk⟩;have HS2:=zqm (Kd.S_drop hs);have HB2:=zqm hb;have HK2:=zqm hk;have hx1':w2.cell? ⟨gb,1,none⟩=some (.slice A1 N.length c1):=cell_kept hx1 hk (fun h=>by have h3:gb<w.heap.size:=h.2;have:=HGB.out;omega);have HR2:=zqm (Kd.R_kept (Kd.R_below HR.out HBX.out) hk (fun k hk h2=>HD.out k hk h2.1));clear hs hb hk hx0 hx1)|(go_at_call 37;(with_reducible refine(laws_markIntS.calls K ok1 _ N _ _ _ w0 _ ?sB ?sO HKF.out).mono ?_);(case sB=>exact HB2.out);(case sO=>exact HR2.out);rintro e w3 ⟨rfl,ho,hb,hk⟩;have HO3:=zqm (Kd.R_mono (Kd.R_tight rfl ho) (fun k hk=>HR2.out.1 k hk.symm));have HB3:=zqm hb;have HK3:=zqm hk;clear ho hb hk hx1'))
 go_ret
 exact⟨rfl,Kd.S_kept HS2.out HK3.out (fun k hk h2=>HD.out k h2 hk),HO3.out,HB3.out,((Kept.of_below HBX.out _).then_ HK2.out (fun k hk=> .inl (.inl hk.1))).then_ HK3.out (fun k hk=> .inl (.inr hk))⟩
set_option maxHeartbeats 1000000 in
theorem markLogicS0_calls (A : Option Addr) (c : Nat) (k0 : Int) (w : World) : Calls Try.prog 19 #[.slice A 0 c, .int .i64 k0] w fun e w' => e = .returned (.int .i64 k0) ∧ Below w.heap.size w w' := by
 go_enter Try.func19,Try.ntmps19
 go_wp2_with fail
 go_loopg [1,5] 1 (fun kq v1 v5 W=>v1= .int .i64 k0∧v5= .int .i64 0∧Aside0 (Below w.heap.size w W))
 case atStart=>exact⟨rfl,rfl,⟨Below.refl _ _⟩⟩
 case round=>
  obtain⟨rfl,rfl,HB⟩:=hrel
  go_wp2_with fail
  go_ret
  exact⟨rfl,by repeat(first|exact HB.out|apply below_alloc|apply pw_below_drewN|apply below_drew1)⟩
set_option maxHeartbeats 1000000 in
set_option maxRecDepth 100000 in
theorem markDesk_calls (U : List (List Int)) (N : List Int) (k0 : Int) (ok0 ok1 : Nat → Prop) (A0 : Option Addr) (c0 : Nat) (A1 : Option Addr) (c1 : Nat) (A2 : Option Addr) (c2 : Nat) (w0 w : World) (hB : Below w0.heap.size w0 w) (hS : Kd.S (Kd.slice 3 (Kd.int .i64)) 23 w w0.heap.size ok0 (.slice A0 U.length c0) U)
 (hR:Kd.R (Kd.int .i64) 3 w w0.heap.size ok1 (.slice A1 N.length c1) N) (hd: ∀k,ok1 k→ ¬ok0 k)
 (h0:0≤k0) (hk:k0≤1099511627776) (h1:U.length≤1048576) (h2: ∀r ∈ U,r.length≤1048576) (h3:N.length≤1048576):
 Calls Try.prog 8 #[.agg #[.slice A0 U.length c0,.slice A1 N.length c1,.slice A2 0 c2],.int .i64 k0] w fun e w'=>e= .returned (.int .i64 (k0+lenSum U+N.length))∧Kd.S (Kd.slice 3 (Kd.int .i64)) 23 w' w0.heap.size ok0 (.slice A0 U.length c0) (markR U k0)∧
  Kd.R (Kd.int .i64) 3 w' w0.heap.size ok1 (.slice A1 N.length c1) (numL (k0+lenSum U) N.length)∧Below w0.heap.size w0 w'∧Kept w w' (fun k=>ok0 k∨ok1 k):=by
 have hu28:=Try.underlying28
 have hu25:=Try.underlying25
 have HS:=zqm hS
 have HR:=zqm hR
 have HB:=zqm hB
 have HD:=zqm hd
 have HM:=zqm (fun W okA okB (hB:Below w0.heap.size w0 W) (hS:Kd.S (Kd.slice 3 (Kd.int .i64)) 23 W w0.heap.size okA (.slice A0 U.length c0) U) (hR:Kd.R (Kd.int .i64) 3 W w0.heap.size okB (.slice A1 N.length c1) N) (hd: ∀k,okB k→ ¬okA k)=>markLogic_calls U N k0 okA okB A0 c0 A1 c1 w0 W hB hS hR hd h0 hk h1 h2 h3)
 obtain⟨m,hm⟩: ∃m,m=k0+lenSum U+(N.length:Int):=⟨_,rfl⟩
 rw [← hm] at HM ⊢
 clear hS hR hB hd h0 hk h1 h2 h3 hm
 go_enter Try.func8,Try.ntmps8
 go_wp2_with (first|((with_reducible refine gate_dst (N:=2) rfl ?_);refine box_event ?hg (N:=2) ?hd (cs:= #[.slice A0 U.length c0,.slice A1 N.length c1,.slice A2 0 c2]) (t:=28) ?hr ?_;(case hd=>rfl);(case hg=>rfl);(case hr=> exact zq6);intro gb hg_ w1 hbox hb;have HBX:=zqm hb;have HGB:=zqm hg_;have hx0:w1.cell? ⟨gb,0,none⟩=some (.slice A0 U.length c0):=(blk_cell hbox 0).trans rfl;have hx1:w1.cell? ⟨gb,1,none⟩=some (.slice A1 N.length c1):=(blk_cell hbox 1).trans rfl;have hx2:w1.cell? ⟨gb,2,none⟩=some (.slice A2 0 c2):=(blk_cell hbox 2).trans rfl;clear hbox hb hg_)|(go_at_call 18;(with_reducible refine(HM.out _ (fun k=>ok0 k∧k<w.heap.size) (fun k=>ok1 k∧k<w.heap.size) ?sB ?sS ?sR ?sD).mono ?_);(case sB=>exact below_step HB.out HBX.out);(case sS=>exact Kd.S_old HS.out HBX.out);(case sR=>exact Kd.R_old HR.out HBX.out);(case sD=>exact fun k h1 h2=>HD.out k h1.1 h2.1);rintro e w2 ⟨rfl,hs,hr,hb,hk⟩;have HS2:=zqm (Kd.S_drop hs);have HR2:=zqm (Kd.R_mono hr (fun k h=>h.1));have HB2:=zqm hb;have HK2:=zqm hk;have hx2':w2.cell? ⟨gb,2,none⟩=some (.slice A2 0 c2):=cell_kept hx2 hk (fun h=>by have:=HGB.out;rcases h with h|h <;> (have h3:gb<w.heap.size:=h.2;omega));clear hs hr hb hk hx0 hx1 hx2)|(go_at_call 19;(with_reducible refine(markLogicS0_calls A2 c2 m _).mono ?_);rintro e w3 ⟨rfl,hb⟩;have HB3:=zqm hb;clear hb))
 go_ret
 exact⟨rfl,Kd.S_below HS2.out HB3.out,Kd.R_below HR2.out HB3.out,below_step HB2.out HB3.out,((Kept.of_below HBX.out _).then_ HK2.out (fun k hk=>by rcases hk with h|h;exact .inl (.inl h.1);exact .inl (.inr h.1))).then_ (Kept.of_below HB3.out _) (fun k hk=> .inl hk)⟩
section
def In (U : List (List Int)) (a : Int) : Prop := 0 ≤ a ∧ a < (U.length : Int)
def andI (U : List (List Int)) (a b : Int) : Int := mI U a.toNat b.toNat
def orI (U : List (List Int)) (a b : Int) : Int := jI U a.toNat b.toNat
def notI (N : List Int) (a : Int) : Int := at1 N a.toNat
def noI (U : List (List Int)) : Int := optI (leastO U)
def yesI (U : List (List Int)) (N : List Int) : Int := notI N (noI U)
structure Adr where
 aU:Addr
 aA:Addr
 aO:Addr
 aN:Addr
 cU:Nat
 cA:Nat
 cO:Nat
 cN:Nat
 rU:Nat→Addr
 rA:Nat→Addr
 rO:Nat→Addr
 qU:Nat→Nat
 qA:Nat→Nat
 qO:Nat→Nat
structure View (W : World) (g : Nat) (U : List (List Int)) (N : List Int) (v : Adr) : Prop where
 blk:W.heap[g]? =some (.cells #[.slice (some v.aU) U.length v.cU,.slice (some v.aA) U.length v.cA,.slice (some v.aO) U.length v.cO,.slice (some v.aN) U.length v.cN,.int .i64 (noI U),.int .i64 (yesI U N)] 72 (0,0))
 len:N.length=U.length
 u: ∀a,In U a→W.cell? (v.aU.add a.toNat)=some (.slice (some (v.rU a.toNat)) U.length (v.qU a.toNat))
 u2: ∀a b,In U a→In U b→W.cell? ((v.rU a.toNat).add b.toNat)=some (.int .i64 (at2 U a.toNat b.toNat))
 m: ∀a,In U a→W.cell? (v.aA.add a.toNat)=some (.slice (some (v.rA a.toNat)) U.length (v.qA a.toNat))
 m2: ∀a b,In U a→In U b→W.cell? ((v.rA a.toNat).add b.toNat)=some (.int .i64 (andI U a b))
 j: ∀a,In U a→W.cell? (v.aO.add a.toNat)=some (.slice (some (v.rO a.toNat)) U.length (v.qO a.toNat))
 j2: ∀a b,In U a→In U b→W.cell? ((v.rO a.toNat).add b.toNat)=some (.int .i64 (orI U a b))
 n: ∀a,In U a→W.cell? (v.aN.add a.toNat)=some (.int .i64 (notI N a))
 capU:U.length≤v.cU
 capR: ∀a,In U a→U.length≤v.qU a.toNat
namespace View
section
variable {W W1 : World} {g : Nat} {U : List (List Int)} {N : List Int} {v : Adr} (h : View W g U N v)
include h
theorem below (hb : Below W.heap.size W W1) : View W1 g U N v where
 blk:=blk_below h.blk hb
 len:=h.len
 u:=fun a ha=>cell_up (h.u a ha) hb rfl
 u2:=fun a b ha hb'=>cell_up (h.u2 a b ha hb') hb rfl
 m:=fun a ha=>cell_up (h.m a ha) hb rfl
 m2:=fun a b ha hb'=>cell_up (h.m2 a b ha hb') hb rfl
 j:=fun a ha=>cell_up (h.j a ha) hb rfl
 j2:=fun a b ha hb'=>cell_up (h.j2 a b ha hb') hb rfl
 n:=fun a ha=>cell_up (h.n a ha) hb rfl
 capU:=h.capU
 capR:=h.capR
theorem f0 : W.cell? ⟨g, 0, none⟩ = some (.slice (some v.aU) U.length v.cU) := (blk_cell h.blk 0).trans rfl
theorem f1 : W.cell? ⟨g, 1, none⟩ = some (.slice (some v.aA) U.length v.cA) := (blk_cell h.blk 1).trans rfl
theorem f3 : W.cell? ⟨g, 3, none⟩ = some (.slice (some v.aN) U.length v.cN) := (blk_cell h.blk 3).trans rfl
theorem drewN (n : Nat) : View (W.drewN n) g U N v := h.below (pw_below_drewN (Below.refl _ _) n)
theorem alloc (o : Obj) : View (W.alloc o) g U N v := h.below (below_alloc (Below.refl _ _) o)
end
end View
end
end Go.Proofs.Ytndbbbnofmlkdaa.Print
end
section
namespace Go.Proofs.Ytndbbbnofmlkdaa.Print
open Go.RowKit Go.Proofs.YtndbbbnofmlkdaaW.PrintWords Go.Proofs.YtndbbbnofmlkdaaW.PrintLast Go.Proofs.YtndbbbnofmlkdaaW.PrintMore
theorem goesV_ {P : Program} {ops : Array Oper} {Q : Exit → Act → World → Prop} {rest : List Oper} {oi : Oper} {a : Act} {w : World} (N : Option Tmp) (hd : oi.dst = N) (hg : oi.guard = none) {f : FuncId} {fn : Func} {x : Operand} {xo : Array Operand} {ts : Array TypeId} {cs : Array Value}
 (hf : P.funcs[f]? = some fn) (hname : (fn.name == "runtime.NumGoroutine") = false) (hb : fn.body.isSome = true) (args : Array Value)
 (hop : oi.op = .call { callee := .value x, args := xo, argTypes := ts }) (hx : a.eval x = .func (.func f) #[] cs) (hargs : xo.map a.eval = args)
 (h : Calls P f (args ++ cs) w fun e w' => ∃ v, e = .returned v ∧ wpList P ops Q rest (a.put N v) w') : wpList P ops Q (oi :: rest) a w := by
 refine wpList_plain hg fun K hK => ?_
 have he := enters_ hf hname hb (args ++ cs) w
 have hrun : (execOp a.eval oi).run P w = .ok (.enter f (args ++ cs)) w := by
  unfold execOp
  simp [hop, resolve, Deferred.ofValue, invoke, hx, hargs, he]
 unfold Oper.wp
 rw [hrun, Oper.upon_enter]
 refine h.mono fun e w'' hh => ?_
 obtain ⟨v, rfl, hk⟩ := hh
 subst hd
 exact hK _ _ hk
end Go.Proofs.Ytndbbbnofmlkdaa.Print
end
section
namespace Go.Proofs.Ytndbbbnofmlkdaa.Print
open Go.RowKit Go.Proofs.YtndbbbnofmlkdaaW.PrintWords Go.Proofs.YtndbbbnofmlkdaaW.PrintLast Go.Proofs.YtndbbbnofmlkdaaW.PrintMore
open Oml
section
attribute [local go_sem] max2_int min2_int max_two min_two max_three min_three max_four min_four
theorem goesW_ {P : Program} {ops : Array Oper} {Q : Exit → Act → World → Prop} {oi : Oper} {N : Option Tmp} {a : Act} {w : World} {K : Act → World → Prop} {f : FuncId} {fn : Func} {x : Operand} {xo : Array Operand} {ts : Array TypeId} {cs : Array Value} (hf : P.funcs[f]? = some fn) (hname : (fn.name == "runtime.NumGoroutine") = false) (hb : fn.body.isSome = true) (args : Array Value)
 (hw : Region.wanted oi (yielded ops a.tmps) = true) (hN : oi.dst = N) (hop : oi.op = .call { callee := .value x, args := xo, argTypes := ts }) (hx : a.eval x = .func (.func f) #[] cs) (hargs : xo.map a.eval = args)
 (h : Calls P f (args ++ cs) w fun e w' => ∃ v, e = .returned v ∧ K (a.put N v) w') : if Region.wanted oi (yielded ops a.tmps) = true then Oper.wp P oi a w K Q else K (a.put N undef) w := by
 refine call_ f (args ++ cs) hw hN ?_ h
 have he := enters_ hf hname hb (args ++ cs) w
 unfold execOp
 simp [hop, resolve, Deferred.ofValue, invoke, hx, hargs, he]
section
variable (P : Int → Int → Option Bool) (Q : Int → Int) (D : Int → Bool)
mutual
def impl_made.l0 : Nat → Int → Int → Int → Int → List (List Int) → List Int → Option ((List (List Int)) × List Int)
 |0,_,_,_,_,_,_=>none
 |k+1,x0,x2,x11,x12,x1125000,x1125001=>if x12<x11 then(if 0≤x0∧D x12=true then(if(x0:Int).toNat≤35184372088832 then(impl_made.l1 k x0 x2 x12 (List.replicate (x0:Int).toNat 0) x11 x12 x0 0 x1125000 x1125001) else(none)) else(none)) else(some (x1125000,x1125001))
def impl_made.l1 : Nat → Int → Int → Int → List Int → Int → Int → Int → Int → List (List Int) → List Int → Option ((List (List Int)) × List Int)
 |0,_,_,_,_,_,_,_,_,_,_=>none
 |k+1,x0,x2,x8,x9,x11,x12,x17,x18,x1125000,x1125001=>if x18<x17 then((P x8 x18).bind fun t1128=>(if t1128=true then(if 0≤x18 then(if x18<(x9.length:Int) then(impl_made.l1 k x0 x2 x8 (x9.set (x18:Int).toNat 1) x11 x12 x17 (wrap64 (x18+1)) x1125000 x1125001) else(none)) else(none)) else(impl_made.l1 k x0 x2 x8 x9 x11 x12 x17 (wrap64 (x18+1)) x1125000 x1125001))) else(if x1125000.length<5864062014805 then(if x1125001.length<17592186044416 then(impl_made.l0 k x0 x2 x11 (wrap64 (x12+1)) (x1125000 ++ [x9]) (x1125001 ++ [Q x8])) else(none)) else(none))
end
def impl_made.f (k : Nat) (a0 : Int) (a1 : Int) (a2 : Int) : Option ((List (List Int)) × List Int) := impl_made.l0 P Q D k a0 a2 a0 0 ([] : List (List Int)) ([] : List Int)
def impl_made.T13 : Bool × List (List Nat × List Nat) := (true, [([], []), ([0], [0]), ([], []), ([], []), ([2, 3], [2, 3]), ([4], [4]), ([1, 5, 4], [1, 5]), ([0, 1, 2, 3, 4, 5, 6], []), ([7, 6, 6, 0, 1, 2, 3, 4, 5, 6], [6, 7])])
def impl_made.B13 : List Nat := [0, 1, 0, 0, 12, 28, 63, 127, 255]
theorem impl_made.tab13 : rtab .any (opsOf Try.f31 13) = impl_made.T13 := by kernel_rfl
theorem impl_made.bits13 : waitsOk impl_made.T13.2 impl_made.B13 = true := by kernel_rfl
set_option maxHeartbeats 8000000 in
set_option maxRecDepth 100000 in
theorem impl_made.calls (k : Nat) (a0 : Int) (a2 : Int) (fu fn : Nat) (Fu Fn : Func) (cu cn : Array Value) (hf1 : Try.prog.funcs[fu]? = some Fu) (hn1 : (Fu.name == "runtime.NumGoroutine") = false) (hb1 : Fu.body.isSome = true) (hf2 : Try.prog.funcs[fn]? = some Fn) (hn2 : (Fn.name == "runtime.NumGoroutine") = false) (hb2 : Fn.body.isSome = true) (r1 : List (List Int)) (r2 : List Int) (w : World) (hu : ∀ (x y : Int) (b : Bool) (W : World), P x y = some b → Below w.heap.size w W → Calls Try.prog fu (#[.int .i64 x, .int .i64 y] ++ cu) W fun e w' => e = .returned (.bool b) ∧ Drawn0 W w') (hv : ∀ (x : Int) (W : World), D x = true → Below w.heap.size w W → Calls Try.prog fn (#[.int .i64 x] ++ cn) W fun e w' => e = .returned (.int .i64 (Q x)) ∧ Drawn0 W w') (h : impl_made.f P Q D k a0 0 a2 = some (r1, r2)) :
 Calls Try.prog 31 #[.int .i64 a0, .func (.func fu) #[] cu, .func (.func fn) #[] cn] w fun e w' => ∃ v0_ v1_ : Value, e = .returned (.agg #[v0_, v1_]) ∧ Kd.S (Kd.slice 3 (Kd.int .i64)) 23 w' w.heap.size (fun k_ => some k_ ≠ (v1_ : Value).ownBlock) v0_ r1 ∧ Kd.R (Kd.int .i64) 3 w' w.heap.size (fun _ => True) v1_ r2 ∧ Below w.heap.size w w' := by
 have hu30 := Try.underlying25
 have HB := Aside0.mk (Below.refl w.heap.size w)
 have HF1 := Aside0.mk hf1
 have HN1 := Aside0.mk hn1
 have HD1 := Aside0.mk hb1
 have HF2 := Aside0.mk hf2
 have HN2 := Aside0.mk hn2
 have HD2 := Aside0.mk hb2
 have HU := Aside0.mk hu
 have HV := Aside0.mk hv
 clear hf1 hn1 hb1 hf2 hn2 hb2 hu hv
 have H : (impl_made.l0 P Q D k a0 a2 a0 0 ([] : List (List Int)) ([] : List Int)) = some (r1, r2) := h
 clear h
 have H' := Aside0.mk H
 clear H
 go_enter Try.func31, Try.ntmps31
 go_wp2_with (first | ((with_reducible refine gate_dst (N := 6) rfl ?_); refine box_event ?hg (N := 6) ?hd (cs := #[.slice none 0 0, .slice none 0 0]) (t := 25) ?hr ?_; (case hd => rfl); (case hg => rfl); (case hr => exact zq81); intro gb1123 hg w4 hbox hb; have n0_ := Aside0.mk (below_step zq30 hb); have n1_ := Aside0.mk (hbox); have n2_ := Aside0.mk ((by rw [hg]; exact (below_size zq30) : w.heap.size ≤ gb1123)); have n3_ := Aside0.mk ((by rw [hg]; exact (below_size zq30) : w.heap.size ≤ gb1123)); clear HB; have HB := n0_; have BK1123 := n1_; have GW1123 := n2_; have GE1123 := n3_; clear n0_ n1_ n2_ n3_; clear hb hbox hg) | ((with_reducible refine gate_dst (N := 7) rfl ?_); refine box_event ?hg (N := 7) ?hd (cs := #[.slice none 0 0, .slice none 0 0]) (t := 25) ?hr ?_; (case hd => rfl); (case hg => rfl); (case hr => exact zq81); intro gb1124 hg w5 hbox hb; have n0_ := Aside0.mk (blk_below (g := gb1123) (o := .cells #[.slice none 0 0, .slice none 0 0] 25 (0, 0)) (zqe BK1123.out) hb); have n1_ := Aside0.mk (below_step zq39 hb); have n2_ := Aside0.mk (hbox); have n3_ := Aside0.mk ((by rw [hg]; exact (below_size zq39) : w.heap.size ≤ gb1124)); have n4_ := Aside0.mk ((by rw [hg]; exact (below_size zq39) : w.heap.size ≤ gb1124)); have n5_ := Aside0.mk ((by rw [hg]; exact Nat.ne_of_lt (blk_lt (g := gb1123) (o := .cells #[.slice none 0 0, .slice none 0 0] 25 (0, 0)) (zqe BK1123.out)) : gb1123 ≠ gb1124)); have n6_ := Aside0.mk ((by rw [hg]; exact Nat.ne_of_gt (blk_lt (g := gb1123) (o := .cells #[.slice none 0 0, .slice none 0 0] 25 (0, 0)) (zqe BK1123.out)) : gb1124 ≠ gb1123)); clear BK1123; clear HB; have BK1123 := n0_; have HB := n1_; have BK1124 := n2_; have GW1124 := n3_; have GE1124 := n4_; have NB1123_1124 := n5_; have NB1124_1123 := n6_; clear n0_ n1_ n2_ n3_ n4_ n5_ n6_; clear hb hbox hg))
 go_loopg [12] k (fun kq v12 w' => ∃ (x12_1 : Int) (x1125000_1 : List (List Int)) (x1125001_1 : List Int) (u1125000 : Value) (u1125001 : Value), v12 = .int .i64 x12_1 ∧ Aside0 (impl_made.l0 P Q D kq a0 a2 a0 x12_1 x1125000_1 x1125001_1 = some (r1, r2)) ∧ Aside0 (kq ≤ k) ∧ Aside0 (Kd.S (Kd.slice 3 (Kd.int .i64)) 23 w' w.heap.size (fun k_ => some k_ ≠ (u1125001 : Value).ownBlock) u1125000 x1125000_1) ∧ Aside0 (Kd.R (Kd.int .i64) 3 w' w.heap.size (fun _ => True) u1125001 x1125001_1) ∧ Aside0 (w'.heap[gb1123]? = some (.cells #[(.slice none 0 0), (.slice none 0 0)] 25 (0, 0))) ∧ Aside0 (w'.heap[gb1124]? = some (.cells #[u1125000, u1125001] 25 (0, 0))) ∧ Aside0 (Below w.heap.size w w'))
 case atStart => exact ⟨(0), (([] : List (List Int))), (([] : List Int)), (.slice none 0 0), (.slice none 0 0), zq61, H', ⟨Nat.le_refl _⟩, ⟨by first | exact Kd.S_nil _ _ _ _ _ | exact Kd.N_nil _ _ _ _ _ | exact Kd.V_nil _ _ _ _ _ | exact Kd.Q_nil _ _ _ _ _ | exact Kd.R_nil _ _ _ _ _⟩, ⟨by first | exact Kd.R_nil _ _ _ _ _ | exact Kd.N_nil _ _ _ _ _ | exact Kd.V_nil _ _ _ _ _ | exact Kd.Q_nil _ _ _ _ _ | exact Kd.S_nil _ _ _ _ _⟩, ⟨zqe BK1123.out⟩, ⟨zqe BK1124.out⟩, ⟨zq4⟩⟩
 case round =>
  clear H'
  try clear c1
  try clear p2
  obtain ⟨x12_1, x1125000_1, x1125001_1, u1125000, u1125001, rfl, HA, HK1, HO_1125000, HO_1125001, BK1123, BK1124, HB⟩ := hrel
  cases gk with
  | zero => exact absurd HA.out (by simp [impl_made.l0])
  | succ k1 =>
   have H := HA.out
   clear HA
   simp only [impl_made.l0] at H
   by_cases c6 : x12_1 < a0
   ·rw [if_pos c6] at H
    have c6b0 : decide (x12_1 < a0) = true := decide_eq_true c6
    clear c6
    by_cases c7_ : 0 ≤ a0 ∧ D x12_1 = true
    ·rw [if_pos c7_] at H
     have HDx := Aside0.mk c7_.2
     have c7 := c7_.1
     clear c7_
     have c7b0 := eq_true c7
     have c7b1 : decide (0 ≤ a0) = true := decide_eq_true c7
     clear c7
     by_cases c8 : (a0 : Int).toNat ≤ 35184372088832
     ·rw [if_pos c8] at H
      have c8b0 := eq_true c8
      have c8b1 : decide ((a0 : Int).toNat ≤ 35184372088832) = true := decide_eq_true c8
      clear c8
      obtain ⟨y1125, hy1125⟩ : ∃ y_ : List Int, y_ = (List.replicate (a0 : Int).toNat 0) := ⟨_, rfl⟩
      replace H : (impl_made.l1 P Q D k1 a0 a2 x12_1 y1125 a0 x12_1 a0 0 x1125000_1 x1125001_1) = some (r1, r2) := zqy hy1125 H
      have Ny1125 := Aside0.mk hy1125
      clear hy1125
      have H' := Aside0.mk H
      clear H
      go_wp2_with (first | ((with_reducible refine gate_dst (N := 16) rfl ?_); refine Kd.R_make (Kd.int .i64) _ 3 rfl (N := 16) rfl 23 _ _ rfl a0 rfl rfl Try.underlying23 (.int .i64 0) 8 info3 rfl (by decide) (by omega) 0 (ok := fun _ => True) (okp := fun _ => True) rfl (fun _ hk => hk) trivial (of_decide_eq_true zq64) (Nat.le_trans (Nat.mul_le_mul_right _ (of_decide_eq_true zq64 : a0.toNat ≤ 35184372088832)) (by omega)) (Below.refl _ _) (Nat.le_refl _) ?_; intro v1126 w9 ho10 hb hg_ hnew_; clear hg_ hnew_; (first | rw [← Ny1125.out] at ho10 | (simp only [Int.reduceToNat] at ho10; rw [← Ny1125.out] at ho10)); have n0_ := Aside0.mk (Kd.S_elder' (zqfS HO_1125000.out) (Kd.R_base ho10) hb); have n1_ := Aside0.mk (Kd.R_elder' (zqfR HO_1125001.out) (Kd.R_base ho10) hb); have n2_ := Aside0.mk (Kd.R_lower (Kd.R_new' ho10 (Kd.R_lt (zqfR HO_1125001.out))) (below_size zq4)); have n3_ := Aside0.mk (blk_below (g := gb1123) (o := .cells #[.slice none 0 0, .slice none 0 0] 25 (0, 0)) (zqe BK1123.out) hb); have n4_ := Aside0.mk (blk_below (g := gb1124) (o := .cells #[u1125000, u1125001] 25 (0, 0)) (zqe BK1124.out) hb); have n5_ := Aside0.mk (below_step zq4 hb); clear HO_1125000; clear HO_1125001; clear BK1123; clear BK1124; clear HB; have HO_1125000 := n0_; have HO_1125001 := n1_; have HO1127 := n2_; have BK1123 := n3_; have BK1124 := n4_; have HB := n5_; clear n0_ n1_ n2_ n3_ n4_ n5_; clear hb ho10))
      go_loopg [18] k1 (fun kq v18 w' => ∃ (x9_2 : List Int) (x18_2 : Int), v18 = .int .i64 x18_2 ∧ Aside0 (impl_made.l1 P Q D kq a0 a2 x12_1 x9_2 a0 x12_1 a0 x18_2 x1125000_1 x1125001_1 = some (r1, r2)) ∧ Aside0 (kq ≤ k1) ∧ Aside0 (Kd.R (Kd.int .i64) 3 w' w.heap.size (fun k_ => some k_ ≠ (u1125001 : Value).ownBlock) v1126 x9_2) ∧ Aside0 (Kd.S (Kd.slice 3 (Kd.int .i64)) 23 w' w.heap.size (fun k_ => some k_ ≠ (v1126 : Value).ownBlock ∧ some k_ ≠ (u1125001 : Value).ownBlock) u1125000 x1125000_1) ∧ Aside0 (Kd.R (Kd.int .i64) 3 w' w.heap.size (fun k_ => some k_ ≠ (v1126 : Value).ownBlock) u1125001 x1125001_1) ∧ Aside0 (w'.heap[gb1123]? = some (.cells #[(.slice none 0 0), (.slice none 0 0)] 25 (0, 0))) ∧ Aside0 (w'.heap[gb1124]? = some (.cells #[u1125000, u1125001] 25 (0, 0))) ∧ Aside0 (Below w.heap.size w w'))
      case atStart => exact ⟨(y1125), (0), zq61, H', ⟨Nat.le_refl _⟩, ⟨by refine zqfR ?_; exact Kd.R_mono HO1127.out (fun _ hk => hk.2)⟩, ⟨zq51⟩, ⟨by refine zqfR ?_; exact Kd.R_mono HO_1125001.out (fun _ hk => hk.2)⟩, ⟨zqe BK1123.out⟩, ⟨zqe BK1124.out⟩, ⟨zq4⟩⟩
      case round =>
       clear H'
       try clear c1
       try clear p2
       try clear c6
       try clear c6b0
       try clear c7
       try clear c7b0
       try clear c7b1
       try clear c8
       try clear c8b0
       try clear c8b1
       try clear c10
       try clear p2
       obtain ⟨x9_2, x18_2, rfl, HA, HK2, HO_9, HO_1125000, HO_1125001, BK1123, BK1124, HB⟩ := hrel
       cases gk with
       | zero => exact absurd HA.out (by simp [impl_made.l1])
       | succ k2 =>
        have H := HA.out
        clear HA
        simp only [impl_made.l1] at H
        by_cases c11 : x18_2 < a0
        ·rw [if_pos c11] at H
         have c11b0 : decide (x18_2 < a0) = true := decide_eq_true c11
         clear c11
         replace H := Option.bind_eq_some_iff.mp H
         obtain ⟨t1128, A120, H⟩ := H
         replace H : (if t1128 = true then (if 0 ≤ x18_2 then (if x18_2 < (x9_2.length : Int) then (impl_made.l1 P Q D k2 a0 a2 x12_1 (x9_2.set (x18_2 : Int).toNat 1) a0 x12_1 a0 (wrap64 (x18_2 + 1)) x1125000_1 x1125001_1) else (none)) else (none)) else (impl_made.l1 P Q D k2 a0 a2 x12_1 x9_2 a0 x12_1 a0 (wrap64 (x18_2 + 1)) x1125000_1 x1125001_1)) = some (r1, r2) := H
         have A12 := Aside0.mk A120
         clear A120
         by_cases c13 : t1128 = true
         ·subst c13
          have H1 : (if 0 ≤ x18_2 then (if x18_2 < (x9_2.length : Int) then (impl_made.l1 P Q D k2 a0 a2 x12_1 (x9_2.set (x18_2 : Int).toNat 1) a0 x12_1 a0 (wrap64 (x18_2 + 1)) x1125000_1 x1125001_1) else (none)) else (none)) = some (r1, r2) := by rw [if_pos rfl] at H; exact H
          clear H
          have H := H1
          clear H1
          by_cases c14 : 0 ≤ x18_2
          ·rw [if_pos c14] at H
           have c14b0 : decide (0 ≤ x18_2) = true := decide_eq_true c14
           clear c14
           by_cases c15 : x18_2 < (x9_2.length : Int)
           ·rw [if_pos c15] at H
            have c15b0 : decide (x18_2 < (x9_2.length : Int)) = true := decide_eq_true c15
            clear c15
            obtain ⟨y1129, hy1129⟩ : ∃ y_ : List Int, y_ = (x9_2.set (x18_2 : Int).toNat 1) := ⟨_, rfl⟩
            replace H : (impl_made.l1 P Q D k2 a0 a2 x12_1 y1129 a0 x12_1 a0 (wrap64 (x18_2 + 1)) x1125000_1 x1125001_1) = some (r1, r2) := zqy hy1129 H
            have Ny1129 := Aside0.mk hy1129
            clear hy1129
            have H' := Aside0.mk H
            clear H
            go_wp2_with (first | (refine goesV_ (some 24) rfl rfl HF1.out HN1.out HD1.out #[.int .i64 x12_1, .int .i64 x18_2] rfl rfl zq69 ?_; refine (HU.out x12_1 x18_2 _ _ A12.out zq30).mono ?_; rintro e w' ⟨rfl, ⟨nd, rfl⟩⟩; refine ⟨_, rfl, ?_⟩; (try (rw [drewN_self wr]; generalize hq_ : World.drewN wr _ = wr; have n0_ : Aside0 (Kd.S (Kd.slice 3 (Kd.int .i64)) 23 wr w.heap.size (fun k_ => some k_ ≠ (u1125001 : Value).ownBlock ∧ some k_ ≠ (v1126 : Value).ownBlock) u1125000 x1125000_1) := ⟨by rw [← hq_]; exact zq51⟩; have n1_ : Aside0 (Kd.R (Kd.int .i64) 3 wr w.heap.size (fun k_ => some k_ ≠ (v1126 : Value).ownBlock) u1125001 x1125001_1) := ⟨by rw [← hq_]; exact (zqfR HO_1125001.out)⟩; have n2_ : Aside0 (Kd.R (Kd.int .i64) 3 wr w.heap.size (fun k_ => some k_ ≠ (u1125001 : Value).ownBlock) v1126 x9_2) := ⟨by rw [← hq_]; exact (zqfR HO_9.out)⟩; have n3_ : Aside0 (wr.heap[gb1123]? = some (.cells #[.slice none 0 0, .slice none 0 0] 25 (0, 0))) := ⟨by rw [← hq_]; exact (zqe BK1123.out)⟩; have n4_ : Aside0 (wr.heap[gb1124]? = some (.cells #[u1125000, u1125001] 25 (0, 0))) := ⟨by rw [← hq_]; exact (zqe BK1124.out)⟩; have n5_ : Aside0 (Below w.heap.size w wr) := ⟨by rw [← hq_]; exact zq4⟩; clear HO_1125000 HO_1125001 HO_9 BK1123 BK1124 HB hq_; have HO_1125000 := n0_; have HO_1125001 := n1_; have HO_9 := n2_; have BK1123 := n3_; have BK1124 := n4_; have HB := n5_; clear n0_ n1_ n2_ n3_ n4_ n5_)); have p16 : 0 ≤ (x18_2 : Int) := of_decide_eq_true zq64; have q16 : (x18_2 : Int) < ((x9_2.length : Int) : Int) := of_decide_eq_true zq64; obtain ⟨go16, co16, eo16, gb16, gl16, cl16, HG16⟩ := Kd.R_form HO_9.out (by omega); (first | cases eo16 | (injection eo16 with ea_ en_ ec_; (first | subst ea_ | (injection ea_ with ea_; subst ea_)); subst ec_; clear en_)); have GB16 := Aside0.mk gb16; have GG16 := Aside0.mk HG16; clear gb16 gl16 HG16; obtain ⟨hx16_0, hf16_0⟩ := Kd.R_celln 0 HO_9.out (x18_2 : Int) p16 q16; replace p16 := eq_true p16; replace q16 := eq_true q16; obtain ⟨hy17_, hz17_⟩ := Kd.R_celln 0 HO_9.out (x18_2 : Int) (of_decide_eq_true zq64) (of_decide_eq_true zq64); have HP17 := Kd.R_putg HO_9.out (x18_2 : Int) 1) | ((with_reducible refine gate_store (t := 3) (p := 27) rfl ?_); refine store_event (t := 3) (p := 27) (v := ?vo_w18) (w1 := (wr.setCell ⟨go16, (x18_2 : Int).toNat, none⟩ (.int .i64 1))) ?hg ?ho ?hn ?hr ?_; (case ho => rfl); (case hg => rfl); (case hn => rfl); (case hr => exact zq81); intro w18 hw; have hg : wr.grownBy w18 (some go16) := (by rw [hw]; exact HP17.2); have hp_ : Kd.R (Kd.int .i64) 3 w18 w.heap.size (fun k_ => some k_ ≠ (u1125001 : Value).ownBlock) (.slice (some ⟨go16, 0, none⟩) x9_2.length co16) y1129 := (by rw [hw, Ny1129.out]; exact HP17.1); clear HP17; have n0_ := Aside0.mk (hp_); have n1_ := Aside0.mk (Kd.S_after (v := (.slice (some ⟨go16, 0, none⟩) x9_2.length co16)) (v1 := (.slice (some ⟨go16, 0, none⟩) x9_2.length co16)) (ok := (fun k_ => some k_ ≠ (u1125001 : Value).ownBlock)) zq51 hg (.inl rfl)); have n2_ := Aside0.mk (Kd.R_after (v := (.slice (some ⟨go16, 0, none⟩) x9_2.length co16)) (v1 := (.slice (some ⟨go16, 0, none⟩) x9_2.length co16)) (ok := (fun _ => True)) (by refine zqfR ?_; exact Kd.R_mono HO_1125001.out (fun _ hk => ⟨trivial, hk⟩)) hg (.inl rfl)); have n3_ := Aside0.mk (blk_grown (g := gb1123) (o := .cells #[.slice none 0 0, .slice none 0 0] 25 (0, 0)) (zqe BK1123.out) hg (Kd.R_ne HO_9.out BK1123.out (by decide))); have n4_ := Aside0.mk (blk_grown (g := gb1124) (o := .cells #[u1125000, u1125001] 25 (0, 0)) (zqe BK1124.out) hg (Kd.R_ne HO_9.out BK1124.out (by decide))); have n5_ := Aside0.mk ((by rw [hw]; exact below_set (HB.out) GB16.out : Below w.heap.size w w18)); clear HO_9; clear HO_1125000; clear HO_1125001; clear BK1123; clear BK1124; clear HB; have HO_9 := n0_; have HO_1125000 := n1_; have HO_1125001 := n2_; have BK1123 := n3_; have BK1124 := n4_; have HB := n5_; clear n0_ n1_ n2_ n3_ n4_ n5_; clear hg hw hp_))
            go_roundg k2
            case measure => have := HK1.out; have := HK2.out; omega
            case rel => exact ⟨(y1129), (wrap64 (x18_2 + 1)), zq61, H', ⟨zq82⟩, ⟨zqfR HO_9.out⟩, ⟨zq51⟩, ⟨by refine zqfR ?_; exact Kd.R_mono HO_1125001.out (fun _ hk => hk.2)⟩, ⟨zqe BK1123.out⟩, ⟨zqe BK1124.out⟩, ⟨zq4⟩⟩
           ·rw [if_neg c15] at H
            exact absurd H (by simp)
          ·rw [if_neg c14] at H
           exact absurd H (by simp)
         ·replace c13 := Bool.eq_false_iff.mpr c13
          subst c13
          have H1 : (impl_made.l1 P Q D k2 a0 a2 x12_1 x9_2 a0 x12_1 a0 (wrap64 (x18_2 + 1)) x1125000_1 x1125001_1) = some (r1, r2) := by rw [if_neg (show ¬ (false = true) by decide)] at H; exact H
          clear H
          have H := H1
          clear H1
          have H' := Aside0.mk H
          clear H
          go_wp2_with (first | (refine goesV_ (some 24) rfl rfl HF1.out HN1.out HD1.out #[.int .i64 x12_1, .int .i64 x18_2] rfl rfl zq69 ?_; refine (HU.out x12_1 x18_2 _ _ A12.out zq30).mono ?_; rintro e w' ⟨rfl, ⟨nd, rfl⟩⟩; refine ⟨_, rfl, ?_⟩))
          go_roundg k2
          case measure => have := HK1.out; have := HK2.out; omega
          case rel => exact ⟨(x9_2), (wrap64 (x18_2 + 1)), zq61, H', ⟨zq82⟩, ⟨zqfR HO_9.out⟩, ⟨zqfS HO_1125000.out⟩, ⟨zqfR HO_1125001.out⟩, ⟨zqe BK1123.out⟩, ⟨zqe BK1124.out⟩, ⟨zq4⟩⟩
        ·rw [if_neg c11] at H
         have c11b0 : decide (x18_2 < a0) = false := decide_eq_false c11
         clear c11
         by_cases c19 : x1125000_1.length < 5864062014805
         ·rw [if_pos c19] at H
          have LMc19 := Aside0.mk c19
          clear c19
          obtain ⟨y1130, hy1130⟩ : ∃ y_ : List (List Int), y_ = (x1125000_1 ++ [x9_2]) := ⟨_, rfl⟩
          replace H : (if x1125001_1.length < 17592186044416 then (impl_made.l0 P Q D k2 a0 a2 a0 (wrap64 (x12_1 + 1)) y1130 (x1125001_1 ++ [Q x12_1])) else (none)) = some (r1, r2) := zqy hy1130 H
          have Ny1130 := Aside0.mk hy1130
          clear hy1130
          by_cases c20 : x1125001_1.length < 17592186044416
          ·rw [if_pos c20] at H
           have LMc20 := Aside0.mk c20
           clear c20
           obtain ⟨y1133, hy1133⟩ : ∃ y_ : List Int, y_ = (x1125001_1 ++ [Q x12_1]) := ⟨_, rfl⟩
           replace H : (impl_made.l0 P Q D k2 a0 a2 a0 (wrap64 (x12_1 + 1)) y1130 y1133) = some (r1, r2) := zqy hy1133 H
           have Ny1133 := Aside0.mk hy1133
           clear hy1133
           have H' := Aside0.mk H
           clear H
           have hnb21 := NB1124_1123.out
           have hnc21 := NB1123_1124.out
           have hcz22_0 : wr.cell? ⟨gb1124, 0, none⟩ = some (u1125000) := (blk_cell BK1124.out 0).trans rfl
           have hcz22_1 : wr.cell? ⟨gb1124, 1, none⟩ = some (u1125001) := (blk_cell BK1124.out 1).trans rfl
           have hfz22_0 := blk_frozen BK1124.out 0
           have hfz22_1 := blk_frozen BK1124.out 1
           obtain ⟨Ao24, co24, eo24⟩ := Kd.R_slice HO_9.out
           subst eo24
           try go_wp2_with (first | ((with_reducible refine gate_builtin (b := .append) (xs := #[.tmp 30, .tmp 32]) rfl ?_); at_builtin; refine Kd.S_append (Kd.slice 3 (Kd.int .i64)) (w0 := w) w.heap.size rfl (.tmp 30) (.tmp 32) 22 23 (.slice none 0 0) 24 rfl Try.underlying22 info23 rfl (by decide) (by omega) u1125000 x1125000_1 x9_2 [.slice Ao24 x9_2.length co24] (fun k_ => some k_ ≠ (u1125001 : Value).ownBlock) (fun k_ => some k_ = (.slice Ao24 x9_2.length co24 : Value).ownBlock) rfl rfl ?aP (fun k_ hk_ => ((Kd.R_mono (ok' := fun k_ => ((fun k_ => some k_ ≠ (u1125001 : Value).ownBlock)) k_ ∧ some k_ ≠ (u1125000 : Value).ownBlock) (Kd.R_apart' (HO_9.out) (Kd.S_typed HO_1125000.out) (by decide)) (fun k_ hk => ⟨hk.1, hk.2⟩))).1 k_ hk_.symm) ?aF ?aO ?aB ?aS ?aL ?_; (case aP => exact Kd.M_row (Kd.R_mono (Kd.R_tight rfl (Kd.R_mono (ok' := fun k_ => ((fun k_ => some k_ ≠ (u1125001 : Value).ownBlock)) k_ ∧ some k_ ≠ (u1125000 : Value).ownBlock) (Kd.R_apart' (HO_9.out) (Kd.S_typed HO_1125000.out) (by decide)) (fun k_ hk => ⟨hk.1, hk.2⟩))) (fun _ h_ => h_))); (case aB => exact zq50); (case aF => exact (fun k_ hk => Kd.fresh' (Kd.R_lt (zqfR HO_1125001.out)) k_ hk)); (case aO => exact (by refine zqfS ?_; exact Kd.S_mono HO_1125000.out (fun k_ hk => ⟨hk.2, fun e_ => hk.1 e_⟩))); (case aS => exact zq48); (case aL => have := LMc19.out; omega); intro v1131 w23 ho hb hg hat; rw [← Ny1130.out] at ho; have n0_ := Aside0.mk (Kd.R_over' (zqfR HO_1125001.out) (Kd.S_typed (zqfS HO_1125000.out)) (by decide) hg); have n1_ := Aside0.mk (blk_grown (g := gb1123) (o := .cells #[.slice none 0 0, .slice none 0 0] 25 (0, 0)) (zqe BK1123.out) hg (Kd.S_ne HO_1125000.out BK1123.out (by decide))); have n2_ := Aside0.mk (blk_grown (g := gb1124) (o := .cells #[u1125000, u1125001] 25 (0, 0)) (zqe BK1124.out) hg (Kd.S_ne HO_1125000.out BK1124.out (by decide))); have n3_ := Aside0.mk (hb); have n4_ := Aside0.mk (ho); clear HO_1125001; clear BK1123; clear BK1124; clear HB; clear HO_1125000; clear HO_9; have HO_1125001 := n0_; have BK1123 := n1_; have BK1124 := n2_; have HB := n3_; have HO1132 := n4_; clear n0_ n1_ n2_ n3_ n4_; clear ho hb hg hat; obtain ⟨Ao25, co25, eo25⟩ := Kd.S_slice HO1132.out; subst eo25; have hcz26_0 : w23.cell? ⟨gb1124, 0, none⟩ = some (u1125000) := (blk_cell BK1124.out 0).trans rfl; have hcz26_1 : w23.cell? ⟨gb1124, 1, none⟩ = some (u1125001) := (blk_cell BK1124.out 1).trans rfl; have hfz26_0 := blk_frozen BK1124.out 0; have hfz26_1 := blk_frozen BK1124.out 1))
           have n0_ : Aside0 (Kd.R (Kd.int .i64) 3 (w23.setCell ⟨gb1124, 0, none⟩ (.slice Ao25 y1130.length co25)) w.heap.size (fun _ => True) u1125001 x1125001_1) := ⟨by refine zqfR ?_; exact Kd.R_mono (Kd.R_far (p := ⟨gb1124, 0, none⟩) (Kd.R_types HO_1125001.out BK1124.out (by decide)) (fun _ hk => hk.2) (.slice Ao25 y1130.length co25)) (fun _ hk => trivial)⟩
           have n1_ : Aside0 (Kd.S (Kd.slice 3 (Kd.int .i64)) 23 (w23.setCell ⟨gb1124, 0, none⟩ (.slice Ao25 y1130.length co25)) w.heap.size (fun k_ => some k_ ≠ (u1125001 : Value).ownBlock) (.slice Ao25 y1130.length co25) y1130) := ⟨by refine zqfS ?_; exact Kd.S_mono (Kd.S_far (p := ⟨gb1124, 0, none⟩) (Kd.S_types HO1132.out BK1124.out (by decide)) (fun _ hk => hk.2) (.slice Ao25 y1130.length co25)) (fun _ hk => hk.1)⟩
           have n2_ : Aside0 ((w23.setCell ⟨gb1124, 0, none⟩ (.slice Ao25 y1130.length co25)).heap[gb1123]? = some (.cells #[.slice none 0 0, .slice none 0 0] 25 (0, 0))) := ⟨zq74⟩
           have n3_ : Aside0 ((w23.setCell ⟨gb1124, 0, none⟩ (.slice Ao25 y1130.length co25)).heap[gb1124]? = some (.cells #[.slice Ao25 y1130.length co25, u1125001] 25 (0, 0))) := ⟨by refine zqe ?_; refine blk_put (cs := #[u1125000, u1125001]) ?_ 0 _ rfl; refine zqe ?_; exact BK1124.out⟩
           have n4_ : Aside0 (Below w.heap.size w (w23.setCell ⟨gb1124, 0, none⟩ (.slice Ao25 y1130.length co25))) := ⟨zq4⟩
           (try clear HO_1125001)
           (try clear HO1132)
           (try clear BK1123)
           (try clear BK1124)
           (try clear HB)
           generalize (w23.setCell ⟨gb1124, 0, none⟩ (.slice Ao25 y1130.length co25)) = w27 at n0_ n1_ n2_ n3_ n4_ ⊢
           have HO_1125001 := n0_
           have HO1132 := n1_
           have BK1123 := n2_
           have BK1124 := n3_
           have HB := n4_
           clear n0_ n1_ n2_ n3_ n4_
           have n0_ := Aside0.mk (Kd.R_drew HO_1125001.out)
           have n1_ := Aside0.mk (Kd.S_drew HO1132.out)
           have n2_ := Aside0.mk (blk_drew BK1123.out)
           have n3_ := Aside0.mk (blk_drew BK1124.out)
           have n4_ := Aside0.mk (below_drew1 HB.out)
           clear HO_1125001
           clear HO1132
           clear BK1123
           clear BK1124
           clear HB
           have HO_1125001 := n0_
           have HO1132 := n1_
           have BK1123 := n2_
           have BK1124 := n3_
           have HB := n4_
           clear n0_ n1_ n2_ n3_ n4_
           refine start_ (n := 9) (S := fun w' => w'.cell? ⟨gb1124, 0, none⟩ = some (.slice Ao25 y1130.length co25) ∧ w'.cell? ⟨gb1124, 1, none⟩ = some (u1125001)) (ds := [8]) #[false, false, false, false, false, false, false, false, false] (by kernel_rfl) rfl rfl ⟨(blk_cell BK1124.out 0).trans rfl, (blk_cell BK1124.out 1).trans rfl⟩ (fun hHeld => ?_); refine with_tabW impl_made.tab13 impl_made.bits13 (fun HT_ HW_ => ?_)
           generalize w27.drew = w28 at HO_1125001 HO1132 BK1123 BK1124 HB hHeld ⊢
           refine zqp 0 35 #[true, false, false, false, false, false, false, false, false] HT_ ?_
           refine zqp 2 37 #[true, false, true, false, false, false, false, false, false] HT_ ?_
           refine zqp 3 38 #[true, false, true, true, false, false, false, false, false] HT_ ?_
           refine zqw 1 36 #[true, true, true, true, false, false, false, false, false] HT_ HW_ hHeld ?_
           refine one_ (i := 4) (N := some 39) #[true, true, true, true, true, false, false, false, false] rfl rfl (one_of HT_.out (by kernel_rfl)) (by decide) (fun K hK => ?_)
           refine goesW_ HF2.out HN2.out HD2.out #[.int .i64 x12_1] (by rfl) rfl rfl rfl zq69 ?_
           refine (HV.out x12_1 _ HDx.out HB.out).mono ?_
           rintro e w' ⟨rfl, ⟨nd, rfl⟩⟩
           refine ⟨_, rfl, ?_⟩
           replace HO_1125001 := Aside0.mk (Kd.R_drewN HO_1125001.out nd)
           replace HO1132 := Aside0.mk (Kd.S_drewN HO1132.out nd)
           replace BK1123 := Aside0.mk (blk_drewN BK1123.out nd)
           replace BK1124 := Aside0.mk (blk_drewN BK1124.out nd)
           replace HB := Aside0.mk (pw_below_drewN HB.out nd)
           refine hK.out _ _ ⟨(blk_cell BK1124.out 0).trans rfl, (blk_cell BK1124.out 1).trans rfl⟩ (fun hHeld => ?_)
           clear hK K
           refine norm_ (a' := ?_) ?_ ?_
           rotate_left
           ·show Act.put _ (some 39) _ = _
            simp only [Act.put, List.setIfInBounds_toArray, List.set_cons_zero, List.set_cons_succ, i64_w, i32_w]
            rfl
           refine one_ (i := 5) (N := some 40) #[true, true, true, true, true, true, false, false, false] rfl rfl (one_of HT_.out (by kernel_rfl)) (by decide) (fun K hK => ?_)
           refine value_ (w1 := ?_) (v := ?_) (by rfl) rfl ?_ ?_
           rotate_left 2
           ·go_simp
            constructor
            ·rfl
            ·rfl
           refine hK.out _ _ ⟨(blk_cell (blk_alloc BK1124.out _) 0).trans rfl, (blk_cell (blk_alloc BK1124.out _) 1).trans rfl⟩ (fun hHeld => ?_)
           clear hK K
           refine norm_ (a' := ?_) ?_ ?_
           rotate_left
           ·show Act.put _ (some 40) _ = _
            simp only [Act.put, List.setIfInBounds_toArray, List.set_cons_zero, List.set_cons_succ, i64_w, i32_w]
            rfl
           refine one_ (i := 6) (N := some 41) #[true, true, true, true, true, true, true, false, false] rfl rfl (one_of HT_.out (by kernel_rfl)) (by decide) (fun K hK => ?_)
           refine Kd.R_append_step (Kd.int .i64) (w0 := w) w.heap.size (by rfl) (.tmp 36) (.tmp 40) 23 3 (.int .i64 0) 8 rfl Try.underlying23 info3 rfl (by decide) (by omega) u1125001 x1125001_1 (Q x12_1) [.int .i64 (Q x12_1)] (fun _ => True) (fun _ => False) rfl rfl ?aP (fun _ hk => hk.elim) ?aF ?aO ?aB ?aS ?aL ?_
           (case aP => exact rfl)
           (case aB => exact zq50)
           (case aF => exact (fun _ _ => trivial))
           (case aO => exact (zqfR HO_1125001.out))
           (case aS => exact zq48)
           (case aL => have := LMc20.out; omega)
           intro v1134 w29 ho hb hg hat
           rw [← Ny1133.out] at ho
           have n0_ := Aside0.mk (blk_grown (g := gb1123) (o := .cells #[.slice none 0 0, .slice none 0 0] 25 (0, 0)) (zqe BK1123.out) hg (Kd.R_ne HO_1125001.out BK1123.out (by decide)))
           have n1_ := Aside0.mk (blk_grown (g := gb1124) (o := .cells #[.slice Ao25 y1130.length co25, u1125001] 25 (0, 0)) (zqe BK1124.out) hg (Kd.R_ne HO_1125001.out BK1124.out (by decide)))
           have n2_ := Aside0.mk (Kd.S_after (ok := (fun _ => True)) (by refine zqfS ?_; exact Kd.S_mono HO1132.out (fun _ hk => ⟨trivial, hk⟩)) hg hat)
           have n3_ := Aside0.mk (hb)
           have n4_ := Aside0.mk (ho)
           clear BK1123
           clear BK1124
           clear HO1132
           clear HB
           clear HO_1125001
           have BK1123 := n0_
           have BK1124 := n1_
           have HO1132 := n2_
           have HB := n3_
           have HO1135 := n4_
           clear n0_ n1_ n2_ n3_ n4_
           clear ho hb hg hat
           obtain ⟨Ao30, co30, eo30⟩ := Kd.R_slice HO1135.out
           (first | subst eo30 | (injection eo30 with f1_ f2_ f3_; have f4_ := f1_.symm; have f5_ := f3_.symm; clear f1_ f2_ f3_; subst f4_; subst f5_))
           refine hK.out _ _ ⟨(blk_cell BK1124.out 0).trans rfl, (blk_cell BK1124.out 1).trans rfl⟩ (fun hHeld => ?_)
           clear hK K
           refine norm_ (a' := ?_) ?_ ?_
           rotate_left
           ·show Act.put _ (some 41) _ = _
            simp only [Act.put, List.setIfInBounds_toArray, List.set_cons_zero, List.set_cons_succ, i64_w, i32_w]
            rfl
           refine zqp 7 42 #[true, true, true, true, true, true, true, true, false] HT_ ?_
           refine last_ (i := 8) (N := none) #[true, true, true, true, true, true, true, true, true] rfl rfl (one_of HT_.out (by kernel_rfl)) (by decide) (fun K hK => ?_)
           have hs31 : w29.cell? ⟨gb1124, 1, none⟩ = some (u1125001) := (blk_cell BK1124.out 1).trans rfl
           have hfs31 := blk_frozen BK1124.out 1
           have hns31_0 := NB1123_1124.out
           have hms31_0 := NB1124_1123.out
           refine skip_ (w1 := ?_) (by rfl) rfl ?_ ?_
           rotate_left
           ·go_simp
            rfl
           refine hK.out _ _ ?_
           clear hK K
           refine done_ (done_of HT_.out (by kernel_rfl)) ?_
           try go_wp2
           go_roundg k2
           case measure => have := HK1.out; have := HK2.out; omega
           case rel => exact ⟨(wrap64 (x12_1 + 1)), (y1130), (y1133), (.slice Ao25 y1130.length co25), (.slice Ao30 y1133.length co30), zq61, H', ⟨zq82⟩, ⟨by refine zqfS ?_; exact Kd.S_mono (Kd.S_far (p := ⟨gb1124, 1, none⟩) (Kd.S_types HO1132.out BK1124.out (by decide)) (fun _ hk => hk.2) (.slice Ao30 y1133.length co30)) (fun _ hk => hk.1.2)⟩, ⟨by refine zqfR ?_; exact Kd.R_mono (Kd.R_far (p := ⟨gb1124, 1, none⟩) (Kd.R_types HO1135.out BK1124.out (by decide)) (fun _ hk => hk.2) (.slice Ao30 y1133.length co30)) (fun _ hk => trivial)⟩, ⟨zq74⟩, ⟨by refine zqe ?_; refine blk_put (cs := #[.slice Ao25 y1130.length co25, u1125001]) ?_ 1 _ rfl; refine zqe ?_; exact BK1124.out⟩, ⟨zq4⟩⟩
          ·rw [if_neg c20] at H
           exact absurd H (by simp)
         ·rw [if_neg c19] at H
          exact absurd H (by simp)
     ·rw [if_neg c8] at H
      exact absurd H (by simp)
    ·rw [if_neg c7_] at H
     exact absurd H (by simp)
   ·rw [if_neg c6] at H
    have c6b0 : decide (x12_1 < a0) = false := decide_eq_false c6
    clear c6
    simp only [Option.some.injEq, Prod.mk.injEq] at H
    obtain ⟨rfl, rfl⟩ := H
    have hnb32 := NB1124_1123.out
    have hnc32 := NB1123_1124.out
    have hcz33_0 : wr.cell? ⟨gb1124, 0, none⟩ = some (u1125000) := (blk_cell BK1124.out 0).trans rfl
    have hcz33_1 : wr.cell? ⟨gb1124, 1, none⟩ = some (u1125001) := (blk_cell BK1124.out 1).trans rfl
    have hfz33_0 := blk_frozen BK1124.out 0
    have hfz33_1 := blk_frozen BK1124.out 1
    obtain ⟨Ao34, co34, eo34⟩ := Kd.S_slice HO_1125000.out
    subst eo34
    have hcz35_0 : wr.cell? ⟨gb1123, 0, none⟩ = some (.slice none 0 0) := (blk_cell BK1123.out 0).trans rfl
    have hcz35_1 : wr.cell? ⟨gb1123, 1, none⟩ = some (.slice none 0 0) := (blk_cell BK1123.out 1).trans rfl
    have hfz35_0 := blk_frozen BK1123.out 0
    have hfz35_1 := blk_frozen BK1123.out 1
    obtain ⟨Ao36, co36, eo36⟩ := Kd.R_slice HO_1125001.out
    subst eo36
    go_wp2
    refine bodyPost_ret (results_cell_row rfl _ _ gb1123 25 #[.slice Ao34 x1125000_1.length co34, .slice Ao36 x1125001_1.length co36] (0, 0) _ rfl (by refine zqe ?_; refine blk_put (cs := #[.slice Ao34 x1125000_1.length co34, .slice none 0 0]) ?_ 1 _ rfl; refine zqe ?_; refine blk_put (cs := #[.slice none 0 0, .slice none 0 0]) ?_ 0 _ rfl; refine zqe ?_; exact BK1123.out) Try.underlying25 rfl (by kernel_rfl)) rfl ?_
    exact ⟨_, _, by first | rfl | (simp [errW_none, errW_some] <;> rfl) | (simp [*, errW_none, errW_some] <;> rfl), by refine zqfS ?_; exact Kd.S_mono (Kd.S_far (p := ⟨gb1123, 1, none⟩) (Kd.S_far (p := ⟨gb1123, 0, none⟩) (Kd.S_types HO_1125000.out BK1123.out (by decide)) (fun _ hk => hk.2) (.slice Ao34 x1125000_1.length co34)) (fun _ hk => hk.2) (.slice Ao36 x1125001_1.length co36)) (fun _ hk => hk.1), by refine zqfR ?_; exact Kd.R_mono (Kd.R_far (p := ⟨gb1123, 1, none⟩) (Kd.R_far (p := ⟨gb1123, 0, none⟩) (Kd.R_types HO_1125001.out BK1123.out (by decide)) (fun _ hk => hk.2) (.slice Ao34 x1125000_1.length co34)) (fun _ hk => hk.2) (.slice Ao36 x1125001_1.length co36)) (fun _ hk => trivial), by repeat (first | (with_reducible first | exact HB.out | apply below_alloc | apply pw_below_drewN | apply below_drew1 | refine below_set ?_ GE1123.out | refine below_set ?_ GE1124.out) | exact HB.out)⟩
end
end
def setP (x y : Int) : Bool := Go.bits .andNot .i64 x y == 0
def setQ (n : Int) (x : Int) : Int := Go.bits .andNot .i64 n x
theorem sets_c1 (x y : Int) (W : World) : Calls Try.prog 32 #[.int .i64 x, .int .i64 y] W fun e w' => e = .returned (.bool (setP x y)) ∧ Drawn0 W w' := by
 unfold setP
 go_enter Try.func32,Try.ntmps32
 go_wp2
 go_ret
 exact⟨rfl,by repeat(first|exact Drawn0.refl _|apply Drawn0.step)⟩
theorem sets_c2 (x n : Int) (g : Nat) (W : World) (hG : W.heap[g]? = some (.cells #[.int .i64 n] 3 (0, 0))) : Calls Try.prog 33 #[.int .i64 x, .pointer (some ⟨g, 0, none⟩)] W fun e w' => e = .returned (.int .i64 (setQ n x)) ∧ Drawn0 W w' := by
 unfold setQ
 have x0:W.cell? ⟨g,0,none⟩=some (.int .i64 n):=(blk_cell hG 0).trans rfl
 clear hG
 go_enter Try.func33,Try.ntmps33
 go_wp2
 go_ret
 exact⟨rfl,by repeat(first|exact Drawn0.refl _|apply Drawn0.step)⟩
def sets0 : List (List Int) × List Int := (impl_made.f (fun x y => some (setP x y)) (setQ 0) (fun _ => true) 200 1 0 0).getD ([], [])
theorem sets0_eq : impl_made.f (fun x y => some (setP x y)) (setQ 0) (fun _ => true) 200 1 0 0 = some (sets0.1, sets0.2) := by kernel_rfl
def sets1 : List (List Int) × List Int := (impl_made.f (fun x y => some (setP x y)) (setQ 1) (fun _ => true) 200 2 0 0).getD ([], [])
theorem sets1_eq : impl_made.f (fun x y => some (setP x y)) (setQ 1) (fun _ => true) 200 2 0 0 = some (sets1.1, sets1.2) := by kernel_rfl
def sets2 : List (List Int) × List Int := (impl_made.f (fun x y => some (setP x y)) (setQ 3) (fun _ => true) 200 4 0 0).getD ([], [])
theorem sets2_eq : impl_made.f (fun x y => some (setP x y)) (setQ 3) (fun _ => true) 200 4 0 0 = some (sets2.1, sets2.2) := by kernel_rfl
def sets3 : List (List Int) × List Int := (impl_made.f (fun x y => some (setP x y)) (setQ 7) (fun _ => true) 200 8 0 0).getD ([], [])
theorem sets3_eq : impl_made.f (fun x y => some (setP x y)) (setQ 7) (fun _ => true) 200 8 0 0 = some (sets3.1, sets3.2) := by kernel_rfl
def impl_SetsOf.f (a0 : Int) : Option ((List (List Int)) × List Int × Bool) := if a0 = 0 then some (sets0.1, sets0.2, true) else if a0 = 1 then some (sets1.1, sets1.2, true) else if a0 = 2 then some (sets2.1, sets2.2, true) else if a0 = 3 then some (sets3.1, sets3.2, true) else some ([], [], false)
set_option maxHeartbeats 4000000 in
set_option maxRecDepth 100000 in
theorem impl_SetsOf.calls (a0 : Int) (r1 : List (List Int)) (r2 : List Int) (r3 : Bool) (w : World) (h : impl_SetsOf.f a0 = some (r1, r2, r3)) :
 Calls Try.prog 15 #[.int .i64 a0] w fun e w'=> ∃v0_ v1_:Value,e= .returned (.tuple #[.agg #[v0_,v1_],.bool r3])∧Kd.S (Kd.slice 3 (Kd.int .i64)) 23 w' w.heap.size (fun k_=>some k_≠(v1_:Value).ownBlock) v0_ r1∧Kd.R (Kd.int .i64) 3 w' w.heap.size (fun _=>True) v1_ r2∧Below w.heap.size w w':=by
 unfold impl_SetsOf.f at h
 by_cases h2:a0=0
 ·rw [if_pos h2] at h
  subst h2
  simp only [Option.some.injEq,Prod.mk.injEq] at h
  obtain⟨rfl,rfl,rfl⟩:=h
  have hu30:=Try.underlying25
  have e1:shl .i64 1 0=1:=by kernel_rfl
  have HB:=zqm (Below.refl w.heap.size w)
  go_enter Try.func15,Try.ntmps15
  go_wp2_with (first|((with_reducible refine gate_dst (N:=2) rfl ?_);refine box_event ?hg (N:=2) ?hd (cs:= #[.slice none 0 0,.slice none 0 0]) (t:=25) ?hr ?_;(case hd=>rfl);(case hg=>rfl);(case hr=> exact zq6);intro gb hg w1 hbox hb;have GE:=zqm (show w.heap.size≤gb from zq72);have n0_:=zqm (below_step HB.out hb);have BK:=zqm hbox;clear HB;have HB:=n0_;clear n0_ hb hbox hg)|((with_reducible refine gate_callee (f:=31) rfl ?_);refine goesL_ (some 18) rfl rfl Try.func31 zqk rfl #[.int .i64 1,.func (.func 32) #[] #[],.func (.func 33) #[] #[.pointer (some ⟨w1.heap.size,0,none⟩)]] rfl zq63 ?_;refine(impl_made.calls (fun x y=>some (setP x y)) (setQ 0) (fun _=>true) 200 1 0 32 33 _ _ #[] #[.pointer (some ⟨w1.heap.size,0,none⟩)] Try.func32 zqk rfl Try.func33 zqk rfl sets0.1 sets0.2 _ ?hu ?hv sets0_eq).mono ?_;(case hu=> exact zq62);(case hv=>exact fun x W _ hW=>sets_c2 x 0 w1.heap.size W (blk_below (MapKept.heap_alloc w1 _).1 hW));rintro e w3 ⟨v0_,v1_,rfl,hs,hr,hb⟩;refine⟨_,rfl,?_⟩;obtain⟨A0,c0,rfl⟩:=Kd.R_slice (Kd.S_R hs);obtain⟨A1,c1,rfl⟩:=Kd.R_slice hr;have HS:=zqm (Kd.S_lower hs (show w.heap.size≤_ from below_size (below_alloc HB.out _)));have HR:=zqm (Kd.R_lower hr (show w.heap.size≤_ from below_size (below_alloc HB.out _)));have n0_:=zqm (below_step (below_alloc HB.out _) hb);have n1_:=zqm (blk_below (blk_alloc BK.out _) hb);clear HB BK hs hr hb;have HB:=n0_;have BK:=n1_;clear n0_ n1_;have hcz0:w3.cell? ⟨gb,0,none⟩=some (.slice none 0 0):=(blk_cell BK.out 0).trans rfl;have hcz1:w3.cell? ⟨gb,1,none⟩=some (.slice none 0 0):=(blk_cell BK.out 1).trans rfl;have hfz0:=blk_frozen BK.out 0;have hfz1:=blk_frozen BK.out 1))
  refine bodyPost_ret (results_ct rfl _ _ gb 25 #[.slice A0 sets0.1.length c0,.slice A1 sets0.2.length c1] (0,0) _ rfl (by refine zqe ?_;refine blk_put (cs:= #[.slice A0 sets0.1.length c0,.slice none 0 0]) ?_ 1 _ rfl;refine blk_put (cs:= #[.slice none 0 0,.slice none 0 0]) ?_ 0 _ rfl;exact BK.out) Try.underlying25 rfl zqk) rfl ?_
  exact⟨_,_,rfl,Kd.S_mono (Kd.S_far (p:=⟨gb,1,none⟩) (Kd.S_far (p:=⟨gb,0,none⟩) (Kd.S_types HS.out BK.out (by decide)) (fun _ hk=>hk.2) _) (fun _ hk=>hk.2) _) (fun _ hk=>hk.1),Kd.R_mono (Kd.R_far (p:=⟨gb,1,none⟩) (Kd.R_far (p:=⟨gb,0,none⟩) (Kd.R_types HR.out BK.out (by decide)) (fun _ hk=>hk.2) _) (fun _ hk=>hk.2) _) (fun _ _=>trivial),zq15⟩
 rw [if_neg h2] at h
 have h0:=h2
 clear h2
 by_cases h2:a0=1
 ·rw [if_pos h2] at h
  subst h2
  simp only [Option.some.injEq,Prod.mk.injEq] at h
  obtain⟨rfl,rfl,rfl⟩:=h
  have hu30:=Try.underlying25
  have e1:shl .i64 1 1=2:=by kernel_rfl
  have HB:=zqm (Below.refl w.heap.size w)
  go_enter Try.func15,Try.ntmps15
  go_wp2_with (first|((with_reducible refine gate_dst (N:=2) rfl ?_);refine box_event ?hg (N:=2) ?hd (cs:= #[.slice none 0 0,.slice none 0 0]) (t:=25) ?hr ?_;(case hd=>rfl);(case hg=>rfl);(case hr=> exact zq6);intro gb hg w1 hbox hb;have GE:=zqm (show w.heap.size≤gb from zq72);have n0_:=zqm (below_step HB.out hb);have BK:=zqm hbox;clear HB;have HB:=n0_;clear n0_ hb hbox hg)|((with_reducible refine gate_callee (f:=31) rfl ?_);refine goesL_ (some 18) rfl rfl Try.func31 zqk rfl #[.int .i64 2,.func (.func 32) #[] #[],.func (.func 33) #[] #[.pointer (some ⟨w1.heap.size,0,none⟩)]] rfl zq63 ?_;refine(impl_made.calls (fun x y=>some (setP x y)) (setQ 1) (fun _=>true) 200 2 0 32 33 _ _ #[] #[.pointer (some ⟨w1.heap.size,0,none⟩)] Try.func32 zqk rfl Try.func33 zqk rfl sets1.1 sets1.2 _ ?hu ?hv sets1_eq).mono ?_;(case hu=> exact zq62);(case hv=>exact fun x W _ hW=>sets_c2 x 1 w1.heap.size W (blk_below (MapKept.heap_alloc w1 _).1 hW));rintro e w3 ⟨v0_,v1_,rfl,hs,hr,hb⟩;refine⟨_,rfl,?_⟩;obtain⟨A0,c0,rfl⟩:=Kd.R_slice (Kd.S_R hs);obtain⟨A1,c1,rfl⟩:=Kd.R_slice hr;have HS:=zqm (Kd.S_lower hs (show w.heap.size≤_ from below_size (below_alloc HB.out _)));have HR:=zqm (Kd.R_lower hr (show w.heap.size≤_ from below_size (below_alloc HB.out _)));have n0_:=zqm (below_step (below_alloc HB.out _) hb);have n1_:=zqm (blk_below (blk_alloc BK.out _) hb);clear HB BK hs hr hb;have HB:=n0_;have BK:=n1_;clear n0_ n1_;have hcz0:w3.cell? ⟨gb,0,none⟩=some (.slice none 0 0):=(blk_cell BK.out 0).trans rfl;have hcz1:w3.cell? ⟨gb,1,none⟩=some (.slice none 0 0):=(blk_cell BK.out 1).trans rfl;have hfz0:=blk_frozen BK.out 0;have hfz1:=blk_frozen BK.out 1))
  refine bodyPost_ret (results_ct rfl _ _ gb 25 #[.slice A0 sets1.1.length c0,.slice A1 sets1.2.length c1] (0,0) _ rfl (by refine zqe ?_;refine blk_put (cs:= #[.slice A0 sets1.1.length c0,.slice none 0 0]) ?_ 1 _ rfl;refine blk_put (cs:= #[.slice none 0 0,.slice none 0 0]) ?_ 0 _ rfl;exact BK.out) Try.underlying25 rfl zqk) rfl ?_
  exact⟨_,_,rfl,Kd.S_mono (Kd.S_far (p:=⟨gb,1,none⟩) (Kd.S_far (p:=⟨gb,0,none⟩) (Kd.S_types HS.out BK.out (by decide)) (fun _ hk=>hk.2) _) (fun _ hk=>hk.2) _) (fun _ hk=>hk.1),Kd.R_mono (Kd.R_far (p:=⟨gb,1,none⟩) (Kd.R_far (p:=⟨gb,0,none⟩) (Kd.R_types HR.out BK.out (by decide)) (fun _ hk=>hk.2) _) (fun _ hk=>hk.2) _) (fun _ _=>trivial),zq15⟩
 rw [if_neg h2] at h
 have h1:=h2
 clear h2
 by_cases h2:a0=2
 ·rw [if_pos h2] at h
  subst h2
  simp only [Option.some.injEq,Prod.mk.injEq] at h
  obtain⟨rfl,rfl,rfl⟩:=h
  have hu30:=Try.underlying25
  have e1:shl .i64 1 2=4:=by kernel_rfl
  have HB:=zqm (Below.refl w.heap.size w)
  go_enter Try.func15,Try.ntmps15
  go_wp2_with (first|((with_reducible refine gate_dst (N:=2) rfl ?_);refine box_event ?hg (N:=2) ?hd (cs:= #[.slice none 0 0,.slice none 0 0]) (t:=25) ?hr ?_;(case hd=>rfl);(case hg=>rfl);(case hr=> exact zq6);intro gb hg w1 hbox hb;have GE:=zqm (show w.heap.size≤gb from zq72);have n0_:=zqm (below_step HB.out hb);have BK:=zqm hbox;clear HB;have HB:=n0_;clear n0_ hb hbox hg)|((with_reducible refine gate_callee (f:=31) rfl ?_);refine goesL_ (some 18) rfl rfl Try.func31 zqk rfl #[.int .i64 4,.func (.func 32) #[] #[],.func (.func 33) #[] #[.pointer (some ⟨w1.heap.size,0,none⟩)]] rfl zq63 ?_;refine(impl_made.calls (fun x y=>some (setP x y)) (setQ 3) (fun _=>true) 200 4 0 32 33 _ _ #[] #[.pointer (some ⟨w1.heap.size,0,none⟩)] Try.func32 zqk rfl Try.func33 zqk rfl sets2.1 sets2.2 _ ?hu ?hv sets2_eq).mono ?_;(case hu=> exact zq62);(case hv=>exact fun x W _ hW=>sets_c2 x 3 w1.heap.size W (blk_below (MapKept.heap_alloc w1 _).1 hW));rintro e w3 ⟨v0_,v1_,rfl,hs,hr,hb⟩;refine⟨_,rfl,?_⟩;obtain⟨A0,c0,rfl⟩:=Kd.R_slice (Kd.S_R hs);obtain⟨A1,c1,rfl⟩:=Kd.R_slice hr;have HS:=zqm (Kd.S_lower hs (show w.heap.size≤_ from below_size (below_alloc HB.out _)));have HR:=zqm (Kd.R_lower hr (show w.heap.size≤_ from below_size (below_alloc HB.out _)));have n0_:=zqm (below_step (below_alloc HB.out _) hb);have n1_:=zqm (blk_below (blk_alloc BK.out _) hb);clear HB BK hs hr hb;have HB:=n0_;have BK:=n1_;clear n0_ n1_;have hcz0:w3.cell? ⟨gb,0,none⟩=some (.slice none 0 0):=(blk_cell BK.out 0).trans rfl;have hcz1:w3.cell? ⟨gb,1,none⟩=some (.slice none 0 0):=(blk_cell BK.out 1).trans rfl;have hfz0:=blk_frozen BK.out 0;have hfz1:=blk_frozen BK.out 1))
  refine bodyPost_ret (results_ct rfl _ _ gb 25 #[.slice A0 sets2.1.length c0,.slice A1 sets2.2.length c1] (0,0) _ rfl (by refine zqe ?_;refine blk_put (cs:= #[.slice A0 sets2.1.length c0,.slice none 0 0]) ?_ 1 _ rfl;refine blk_put (cs:= #[.slice none 0 0,.slice none 0 0]) ?_ 0 _ rfl;exact BK.out) Try.underlying25 rfl zqk) rfl ?_
  exact⟨_,_,rfl,Kd.S_mono (Kd.S_far (p:=⟨gb,1,none⟩) (Kd.S_far (p:=⟨gb,0,none⟩) (Kd.S_types HS.out BK.out (by decide)) (fun _ hk=>hk.2) _) (fun _ hk=>hk.2) _) (fun _ hk=>hk.1),Kd.R_mono (Kd.R_far (p:=⟨gb,1,none⟩) (Kd.R_far (p:=⟨gb,0,none⟩) (Kd.R_types HR.out BK.out (by decide)) (fun _ hk=>hk.2) _) (fun _ hk=>hk.2) _) (fun _ _=>trivial),zq15⟩
 rw [if_neg h2] at h
 have h2_:=h2
 clear h2
 by_cases h2:a0=3
 ·rw [if_pos h2] at h
  subst h2
  simp only [Option.some.injEq,Prod.mk.injEq] at h
  obtain⟨rfl,rfl,rfl⟩:=h
  have hu30:=Try.underlying25
  have e1:shl .i64 1 3=8:=by kernel_rfl
  have HB:=zqm (Below.refl w.heap.size w)
  go_enter Try.func15,Try.ntmps15
  go_wp2_with (first|((with_reducible refine gate_dst (N:=2) rfl ?_);refine box_event ?hg (N:=2) ?hd (cs:= #[.slice none 0 0,.slice none 0 0]) (t:=25) ?hr ?_;(case hd=>rfl);(case hg=>rfl);(case hr=> exact zq6);intro gb hg w1 hbox hb;have GE:=zqm (show w.heap.size≤gb from zq72);have n0_:=zqm (below_step HB.out hb);have BK:=zqm hbox;clear HB;have HB:=n0_;clear n0_ hb hbox hg)|((with_reducible refine gate_callee (f:=31) rfl ?_);refine goesL_ (some 18) rfl rfl Try.func31 zqk rfl #[.int .i64 8,.func (.func 32) #[] #[],.func (.func 33) #[] #[.pointer (some ⟨w1.heap.size,0,none⟩)]] rfl zq63 ?_;refine(impl_made.calls (fun x y=>some (setP x y)) (setQ 7) (fun _=>true) 200 8 0 32 33 _ _ #[] #[.pointer (some ⟨w1.heap.size,0,none⟩)] Try.func32 zqk rfl Try.func33 zqk rfl sets3.1 sets3.2 _ ?hu ?hv sets3_eq).mono ?_;(case hu=> exact zq62);(case hv=>exact fun x W _ hW=>sets_c2 x 7 w1.heap.size W (blk_below (MapKept.heap_alloc w1 _).1 hW));rintro e w3 ⟨v0_,v1_,rfl,hs,hr,hb⟩;refine⟨_,rfl,?_⟩;obtain⟨A0,c0,rfl⟩:=Kd.R_slice (Kd.S_R hs);obtain⟨A1,c1,rfl⟩:=Kd.R_slice hr;have HS:=zqm (Kd.S_lower hs (show w.heap.size≤_ from below_size (below_alloc HB.out _)));have HR:=zqm (Kd.R_lower hr (show w.heap.size≤_ from below_size (below_alloc HB.out _)));have n0_:=zqm (below_step (below_alloc HB.out _) hb);have n1_:=zqm (blk_below (blk_alloc BK.out _) hb);clear HB BK hs hr hb;have HB:=n0_;have BK:=n1_;clear n0_ n1_;have hcz0:w3.cell? ⟨gb,0,none⟩=some (.slice none 0 0):=(blk_cell BK.out 0).trans rfl;have hcz1:w3.cell? ⟨gb,1,none⟩=some (.slice none 0 0):=(blk_cell BK.out 1).trans rfl;have hfz0:=blk_frozen BK.out 0;have hfz1:=blk_frozen BK.out 1))
  refine bodyPost_ret (results_ct rfl _ _ gb 25 #[.slice A0 sets3.1.length c0,.slice A1 sets3.2.length c1] (0,0) _ rfl (by refine zqe ?_;refine blk_put (cs:= #[.slice A0 sets3.1.length c0,.slice none 0 0]) ?_ 1 _ rfl;refine blk_put (cs:= #[.slice none 0 0,.slice none 0 0]) ?_ 0 _ rfl;exact BK.out) Try.underlying25 rfl zqk) rfl ?_
  exact⟨_,_,rfl,Kd.S_mono (Kd.S_far (p:=⟨gb,1,none⟩) (Kd.S_far (p:=⟨gb,0,none⟩) (Kd.S_types HS.out BK.out (by decide)) (fun _ hk=>hk.2) _) (fun _ hk=>hk.2) _) (fun _ hk=>hk.1),Kd.R_mono (Kd.R_far (p:=⟨gb,1,none⟩) (Kd.R_far (p:=⟨gb,0,none⟩) (Kd.R_types HR.out BK.out (by decide)) (fun _ hk=>hk.2) _) (fun _ hk=>hk.2) _) (fun _ _=>trivial),zq15⟩
 rw [if_neg h2] at h
 have h3:=h2
 clear h2
 simp only [Option.some.injEq,Prod.mk.injEq] at h
 obtain⟨rfl,rfl,rfl⟩:=h
 have hu30:=Try.underlying25
 have HB:=zqm (Below.refl w.heap.size w)
 have hor:a0<0∨(¬a0<0∧a0>3):=by omega
 clear h0 h1 h2_ h3
 rcases hor with h4|⟨h4,h5⟩
 ·have b1:(a0<0)=True:=eq_true h4
  have b1':decide (a0<0)=true:=decide_eq_true h4
  clear h4
  go_enter Try.func15,Try.ntmps15
  go_wp2_with (first|((with_reducible refine gate_dst (N:=2) rfl ?_);refine box_event ?hg (N:=2) ?hd (cs:= #[.slice none 0 0,.slice none 0 0]) (t:=25) ?hr ?_;(case hd=>rfl);(case hg=>rfl);(case hr=> exact zq6);intro gb hg w1 hbox hb;have GE:=zqm (show w.heap.size≤gb from zq72);have n0_:=zqm (below_step HB.out hb);have BK:=zqm hbox;clear HB;have HB:=n0_;clear n0_ hb hbox hg;have hcz0:w1.cell? ⟨gb,0,none⟩=some (.slice none 0 0):=(blk_cell BK.out 0).trans rfl;have hcz1:w1.cell? ⟨gb,1,none⟩=some (.slice none 0 0):=(blk_cell BK.out 1).trans rfl;have hfz0:=blk_frozen BK.out 0;have hfz1:=blk_frozen BK.out 1))
  refine bodyPost_ret (results_ct rfl _ _ gb 25 #[.slice none 0 0,.slice none 0 0] (0,0) _ rfl zq54 Try.underlying25 rfl zqk) rfl ?_
  exact⟨_,_,rfl,Kd.S_nil _ _ _ _ _,Kd.R_nil _ _ _ _ _,zq15⟩
 ·have b1:(a0<0)=False:=eq_false h4
  have b1':decide (a0<0)=false:=decide_eq_false h4
  have b2:(3<a0)=True:=eq_true h5
  have b2':decide (3<a0)=true:=decide_eq_true h5
  clear h4 h5
  go_enter Try.func15,Try.ntmps15
  go_wp2_with (first|((with_reducible refine gate_dst (N:=2) rfl ?_);refine box_event ?hg (N:=2) ?hd (cs:= #[.slice none 0 0,.slice none 0 0]) (t:=25) ?hr ?_;(case hd=>rfl);(case hg=>rfl);(case hr=> exact zq6);intro gb hg w1 hbox hb;have GE:=zqm (show w.heap.size≤gb from zq72);have n0_:=zqm (below_step HB.out hb);have BK:=zqm hbox;clear HB;have HB:=n0_;clear n0_ hb hbox hg;have hcz0:w1.cell? ⟨gb,0,none⟩=some (.slice none 0 0):=(blk_cell BK.out 0).trans rfl;have hcz1:w1.cell? ⟨gb,1,none⟩=some (.slice none 0 0):=(blk_cell BK.out 1).trans rfl;have hfz0:=blk_frozen BK.out 0;have hfz1:=blk_frozen BK.out 1))
  refine bodyPost_ret (results_ct rfl _ _ gb 25 #[.slice none 0 0,.slice none 0 0] (0,0) _ rfl zq54 Try.underlying25 rfl zqk) rfl ?_
  exact⟨_,_,rfl,Kd.S_nil _ _ _ _ _,Kd.R_nil _ _ _ _ _,zq15⟩
end Go.Proofs.Ytndbbbnofmlkdaa.Print
end
section
namespace Go.Proofs.Ytndbbbnofmlkdaa.Print
open Go.RowKit Go.Proofs.YtndbbbnofmlkdaaW.PrintWords Go.Proofs.YtndbbbnofmlkdaaW.PrintLast Go.Proofs.YtndbbbnofmlkdaaW.PrintMore
section
attribute [local go_sem] max2_int min2_int max_two min_two max_three min_three max_four min_four
def laws_eqLogicS.l0 : Nat → List (S25) → List (S25) → Int → Option (Bool)
 | 0, _, _, _ => none
 | k + 1, x0, x1, x5 => if x5 < (x0.length : Int) then (if 0 ≤ x5 then (if x5 < (x1.length : Int) then ((laws_eqLogic.f k ((rd_T25 x0 x5).f0) ((rd_T25 x0 x5).f1) ((rd_T25 x1 x5).f0) ((rd_T25 x1 x5).f1)).bind fun t148 => (if t148 = true then (laws_eqLogicS.l0 k x0 x1 (wrap64 (x5 + 1))) else (some false))) else (none)) else (none)) else (some true)
def laws_eqLogicS.f (k : Nat) (l0 : List (S25)) (l1 : List (S25)) : Option (Bool) := if (l0.length : Int) = (l1.length : Int) then (laws_eqLogicS.l0 k l0 l1 0) else (some false)
def laws_eqLogicS.T6 : Bool × List (List Nat × List Nat) := (true, [([], []), ([], []), ([0, 1], [0, 1]), ([2], [2]), ([], []), ([], []), ([4, 5], [4, 5]), ([6], [6]), ([3, 7], [3, 7]), ([8], [8])])
def laws_eqLogicS.B6 : List Nat := [0, 0, 3, 7, 0, 0, 48, 112, 255, 511]
theorem laws_eqLogicS.tab6 : rtab .any (opsOf Try.f17 6) = laws_eqLogicS.T6 := by kernel_rfl
theorem laws_eqLogicS.bits6 : waitsOk laws_eqLogicS.T6.2 laws_eqLogicS.B6 = true := by kernel_rfl
set_option maxHeartbeats 8000000 in
set_option maxRecDepth 100000 in
theorem laws_eqLogicS.calls (k : Nat) (A0 : Option Addr) (c0 : Nat) (l0 : List (S25)) (A1 : Option Addr) (c1 : Nat) (l1 : List (S25)) (r : Bool) (w : World) (hr0 : Kd.C k25 w A0 l0.length l0) (hc0 : l0.length ≤ c0) (hr1 : Kd.C k25 w A1 l1.length l1) (hc1 : l1.length ≤ c1) (h : laws_eqLogicS.f k l0 l1 = some r) :
  Calls Try.prog 17 #[.slice A0 l0.length c0, .slice A1 l1.length c1] w fun e w' => e = .returned (.bool r) ∧ Below w.heap.size w w' := by
 have hu25:=Try.underlying25;have e9:=zqm hr0;have f7:=zqm hc0;clear hr0 hc0;have f2:=zqm hr1;have f8:=zqm hc1;clear hr1 hc1;have HB:=zqm (Below.refl w.heap.size w);have H:(if(l0.length:Int)=(l1.length:Int) then(laws_eqLogicS.l0 k l0 l1 0) else(some false))=some r:=h;clear h
 by_cases c3:(l0.length:Int)=(l1.length:Int)
 ·rw [if_pos c3] at H;have e4:((l0.length:Int)==(l1.length:Int))=true:=beq_iff_eq.mpr c3;have e5:((l0.length:Int) !=(l1.length:Int))=false:=bne_eq_false_iff_eq.mpr c3;(have e6:(l0.length==l1.length)=true:=by first|simpa using c3|(simp at c3 ⊢;omega));clear c3;have H':=zqm H;clear H
  go_enter Try.func17,Try.ntmps17
  go_wp2
  go_loopg [5] k (fun kq v5 w'=> ∃(a0:Int),v5= .int .i64 a0∧Aside0 (laws_eqLogicS.l0 kq l0 l1 a0=some r)∧Aside0 (kq≤k)∧Aside0 (Below w.heap.size w w'))
  case atStart=>exact⟨(0),zq7,H',⟨Nat.le_refl _⟩,⟨zq0⟩⟩
  case round=>
   clear H';(try clear c1);(try clear p2);(try clear c3);(try clear e4);(try clear e5);(try clear e6);obtain⟨a0,rfl,HA,e8,HB⟩:=hrel
   cases gk with
   |zero=>exact absurd HA.out (by simp [laws_eqLogicS.l0])
   |succ k1=>
    have H:=HA.out;clear HA;simp only [laws_eqLogicS.l0] at H
    by_cases c4:a0<(l0.length:Int)
    ·rw [if_pos c4] at H;have f3:decide (a0<(l0.length:Int))=true:=decide_eq_true c4;clear c4
     by_cases c5:0≤a0
     ·rw [if_pos c5] at H;have f5:decide (0≤a0)=true:=decide_eq_true c5;clear c5
      by_cases c6:a0<(l1.length:Int)
      ·rw [if_pos c6] at H;have f6:decide (a0<(l1.length:Int))=true:=decide_eq_true c6;clear c6;replace H:=Option.bind_eq_some_iff.mp H;obtain⟨f4,e7,H⟩:=H;(try dsimp only at H);have A7:=zqm e7;clear e7
       by_cases c8:f4=true
       ·subst c8;rw [if_pos rfl] at H;have H':=zqm H;clear H;(try go_wp2);replace HB:=zqm (below_drew1 HB.out);have d4:0≤(a0:Int):=zqo;have d6:a0<(l0.length:Int):=zqo;obtain⟨b7,b9,d0,c2,d1,e2,a1,a2,b3,a9,b4,b0⟩:=at_T25 e9.out a0 d4 d6;have hw146_1:=a2;have hw146_0:=a1
        cases e2
        replace a1:=(HB.out.cell (World.block_lt_of_cell? w _ a1)).trans a1;replace a2:=(HB.out.cell (World.block_lt_of_cell? w _ a2)).trans a2;have a5:=zqm a9;have d8:=zqm b3;clear a9 b3;have a6:=zqm b0;have d9:=zqm b4;clear b0 b4;replace d4:=eq_true d4;replace d6:=eq_true d6;have d5:0≤(a0:Int):=zqo;have d7:a0<(l1.length:Int):=zqo;obtain⟨b8,c7,d2,c9,d3,e3,a3,a4,b5,b1,b6,b2⟩:=at_T25 f2.out a0 d5 d7;have hw147_1:=a4;have hw147_0:=a3
        cases e3
        replace a3:=(HB.out.cell (World.block_lt_of_cell? w _ a3)).trans a3;replace a4:=(HB.out.cell (World.block_lt_of_cell? w _ a4)).trans a4;have a7:=zqm b1;have e0:=zqm b5;clear b1 b5;have a8:=zqm b2;have e1:=zqm b6;clear b2 b6;replace d5:=eq_true d5;replace d7:=eq_true d7;refine start_ (n:=10) (S:=fun w'=>w'.cell? (b7.add ((a0).toNat*2))=some (.slice b9 ((rd_T25 l0 a0).f0).length d0)∧w'.cell? ⟨(b7.add ((a0).toNat*2)).block,(b7.add ((a0).toNat*2)).off+1,none⟩=some (.slice c2 ((rd_T25 l0 a0).f1).length d1)∧w'.cell? (b8.add ((a0).toNat*2))=some (.slice c7 ((rd_T25 l1 a0).f0).length d2)∧w'.cell? ⟨(b8.add ((a0).toNat*2)).block,(b8.add ((a0).toNat*2)).off+1,none⟩=some (.slice c9 ((rd_T25 l1 a0).f1).length d3)) (ds:= []) (zqb 10 0) zqk rfl rfl ⟨((HB.out.cell (World.block_lt_of_cell? w _ hw146_0)).trans hw146_0),((HB.out.cell (World.block_lt_of_cell? w _ hw146_1)).trans hw146_1),((HB.out.cell (World.block_lt_of_cell? w _ hw147_0)).trans hw147_0),((HB.out.cell (World.block_lt_of_cell? w _ hw147_1)).trans hw147_1)⟩ (fun hHeld=>?_);refine with_tabW laws_eqLogicS.tab6 laws_eqLogicS.bits6 (fun HT_ HW_=>?_);generalize wr.drew=w9 at HB a5 a6 a7 a8 a1 a2 a3 a4 hHeld ⊢;refine zqp 0 17 (zqb 10 1) HT_ ?_;refine zqp 1 18 (zqb 10 3) HT_ ?_;refine zqp 2 19 (zqb 10 7) HT_ ?_;refine zqp 4 21 (zqb 10 23) HT_ ?_;refine zqp 5 22 (zqb 10 55) HT_ ?_;refine zqp 6 23 (zqb 10 119) HT_ ?_;refine zqw 3 20 (zqb 10 127) HT_ HW_ hHeld ?_;refine zqw 7 24 (zqb 10 255) HT_ HW_ hHeld ?_;refine one_ (i:=8) (N:=some 25) (zqb 10 511) rfl rfl (one_of HT_.out zqk) (by decide) (fun K hK=>?_);refine goes_ Try.func16 zqk rfl #[.agg #[.slice b9 ((rd_T25 l0 a0).f0).length d0,.slice c2 ((rd_T25 l0 a0).f1).length d1],.agg #[.slice c7 ((rd_T25 l1 a0).f0).length d2,.slice c9 ((rd_T25 l1 a0).f1).length d3]] (by rfl) rfl rfl zq2 ?_;(with_reducible refine(laws_eqLogic.calls k1 _ _ ((rd_T25 l0 a0).f0) _ _ ((rd_T25 l0 a0).f1) _ _ ((rd_T25 l1 a0).f0) _ _ ((rd_T25 l1 a0).f1) true _ ?side1 ?side2 ?side3 ?side4 ?side5 ?side6 ?side7 ?side8 A7.out).mono ?_);(case side1=> exact zq56);(case side2=>exact d8.out);(case side3=> exact zq57);(case side4=>exact d9.out);(case side5=> exact zq58);(case side6=>exact e0.out);(case side7=> exact zq22);(case side8=>exact e1.out);rintro e f9 ⟨rfl,hb⟩;refine⟨_,rfl,?_⟩;replace HB:=zqm (below_step zq0 hb);clear hb;refine hK.out _ _ ⟨((HB.out.cell (World.block_lt_of_cell? w _ hw146_0)).trans hw146_0),((HB.out.cell (World.block_lt_of_cell? w _ hw146_1)).trans hw146_1),((HB.out.cell (World.block_lt_of_cell? w _ hw147_0)).trans hw147_0),((HB.out.cell (World.block_lt_of_cell? w _ hw147_1)).trans hw147_1)⟩ (fun hHeld=>?_);clear hK K;refine norm_ (a':=?_) ?_ ?_;rotate_left
        ·show Act.put _ (some 25) _=_;exact zqs
        refine zqp 9 26 (zqb 10 1023) HT_ ?_;refine done_ (done_of HT_.out zqk) ?_;try go_wp2
        go_roundg k1
        (case measure=>have:=e8.out;omega);case rel=>exact⟨(wrap64 (a0+1)),zq7,H',⟨by have:=e8.out;omega⟩,⟨zq0⟩⟩
       ·replace c8:=Bool.eq_false_iff.mpr c8;subst c8;rw [if_neg (show¬(false=true) by decide)] at H;obtain rfl:=Option.some.inj H;(try go_wp2);replace HB:=zqm (below_drew1 HB.out);have d4:0≤(a0:Int):=zqo;have d6:a0<(l0.length:Int):=zqo;obtain⟨b7,b9,d0,c2,d1,e2,a1,a2,b3,a9,b4,b0⟩:=at_T25 e9.out a0 d4 d6;have hw146_1:=a2;have hw146_0:=a1
        cases e2
        replace a1:=(HB.out.cell (World.block_lt_of_cell? w _ a1)).trans a1;replace a2:=(HB.out.cell (World.block_lt_of_cell? w _ a2)).trans a2;have a5:=zqm a9;have d8:=zqm b3;clear a9 b3;have a6:=zqm b0;have d9:=zqm b4;clear b0 b4;replace d4:=eq_true d4;replace d6:=eq_true d6;have d5:0≤(a0:Int):=zqo;have d7:a0<(l1.length:Int):=zqo;obtain⟨b8,c7,d2,c9,d3,e3,a3,a4,b5,b1,b6,b2⟩:=at_T25 f2.out a0 d5 d7;have hw147_1:=a4;have hw147_0:=a3
        cases e3
        replace a3:=(HB.out.cell (World.block_lt_of_cell? w _ a3)).trans a3;replace a4:=(HB.out.cell (World.block_lt_of_cell? w _ a4)).trans a4;have a7:=zqm b1;have e0:=zqm b5;clear b1 b5;have a8:=zqm b2;have e1:=zqm b6;clear b2 b6;replace d5:=eq_true d5;replace d7:=eq_true d7;refine start_ (n:=10) (S:=fun w'=>w'.cell? (b7.add ((a0).toNat*2))=some (.slice b9 ((rd_T25 l0 a0).f0).length d0)∧w'.cell? ⟨(b7.add ((a0).toNat*2)).block,(b7.add ((a0).toNat*2)).off+1,none⟩=some (.slice c2 ((rd_T25 l0 a0).f1).length d1)∧w'.cell? (b8.add ((a0).toNat*2))=some (.slice c7 ((rd_T25 l1 a0).f0).length d2)∧w'.cell? ⟨(b8.add ((a0).toNat*2)).block,(b8.add ((a0).toNat*2)).off+1,none⟩=some (.slice c9 ((rd_T25 l1 a0).f1).length d3)) (ds:= []) (zqb 10 0) zqk rfl rfl ⟨((HB.out.cell (World.block_lt_of_cell? w _ hw146_0)).trans hw146_0),((HB.out.cell (World.block_lt_of_cell? w _ hw146_1)).trans hw146_1),((HB.out.cell (World.block_lt_of_cell? w _ hw147_0)).trans hw147_0),((HB.out.cell (World.block_lt_of_cell? w _ hw147_1)).trans hw147_1)⟩ (fun hHeld=>?_);refine with_tabW laws_eqLogicS.tab6 laws_eqLogicS.bits6 (fun HT_ HW_=>?_);generalize wr.drew=g0 at HB a5 a6 a7 a8 a1 a2 a3 a4 hHeld ⊢;refine zqp 0 17 (zqb 10 1) HT_ ?_;refine zqp 1 18 (zqb 10 3) HT_ ?_;refine zqp 2 19 (zqb 10 7) HT_ ?_;refine zqp 4 21 (zqb 10 23) HT_ ?_;refine zqp 5 22 (zqb 10 55) HT_ ?_;refine zqp 6 23 (zqb 10 119) HT_ ?_;refine zqw 3 20 (zqb 10 127) HT_ HW_ hHeld ?_;refine zqw 7 24 (zqb 10 255) HT_ HW_ hHeld ?_;refine one_ (i:=8) (N:=some 25) (zqb 10 511) rfl rfl (one_of HT_.out zqk) (by decide) (fun K hK=>?_);refine goes_ Try.func16 zqk rfl #[.agg #[.slice b9 ((rd_T25 l0 a0).f0).length d0,.slice c2 ((rd_T25 l0 a0).f1).length d1],.agg #[.slice c7 ((rd_T25 l1 a0).f0).length d2,.slice c9 ((rd_T25 l1 a0).f1).length d3]] (by rfl) rfl rfl zq2 ?_;(with_reducible refine(laws_eqLogic.calls k1 _ _ ((rd_T25 l0 a0).f0) _ _ ((rd_T25 l0 a0).f1) _ _ ((rd_T25 l1 a0).f0) _ _ ((rd_T25 l1 a0).f1) false _ ?side1 ?side2 ?side3 ?side4 ?side5 ?side6 ?side7 ?side8 A7.out).mono ?_);(case side1=> exact zq56);(case side2=>exact d8.out);(case side3=> exact zq57);(case side4=>exact d9.out);(case side5=> exact zq58);(case side6=>exact e0.out);(case side7=> exact zq22);(case side8=>exact e1.out);rintro e g1 ⟨rfl,hb⟩;refine⟨_,rfl,?_⟩;replace HB:=zqm (below_step zq0 hb);clear hb;refine hK.out _ _ ⟨((HB.out.cell (World.block_lt_of_cell? w _ hw146_0)).trans hw146_0),((HB.out.cell (World.block_lt_of_cell? w _ hw146_1)).trans hw146_1),((HB.out.cell (World.block_lt_of_cell? w _ hw147_0)).trans hw147_0),((HB.out.cell (World.block_lt_of_cell? w _ hw147_1)).trans hw147_1)⟩ (fun hHeld=>?_);clear hK K;refine norm_ (a':=?_) ?_ ?_;rotate_left
        ·show Act.put _ (some 25) _=_;exact zqs
        refine zqp 9 26 (zqb 10 1023) HT_ ?_;refine done_ (done_of HT_.out zqk) ?_;try go_wp2
        go_ret
        exact⟨zq5,zq0⟩
      ·rw [if_neg c6] at H;exact absurd H (by simp)
     ·rw [if_neg c5] at H;exact absurd H (by simp)
    ·rw [if_neg c4] at H;have f3:decide (a0<(l0.length:Int))=false:=decide_eq_false c4;clear c4;obtain rfl:=Option.some.inj H
     go_wp2
     go_ret
     exact⟨zq5,zq0⟩
 ·rw [if_neg c3] at H;have e4:((l0.length:Int)==(l1.length:Int))=false:=beq_eq_false_iff_ne.mpr c3;have e5:((l0.length:Int) !=(l1.length:Int))=true:=bne_iff_ne.mpr c3;(have e6:(l0.length==l1.length)=false:=by first|simpa using c3|(simp at c3 ⊢;omega));obtain rfl:=Option.some.inj H
  go_enter Try.func17,Try.ntmps17
  go_wp2
  go_ret
  exact⟨zq5,zq0⟩
end
section
attribute [local go_sem] max2_int min2_int max_two min_two max_three min_three max_four min_four
def laws_eqDesk.f (k : Nat) (l0_0 : List (List Int)) (l0_1 : List Int) (l0_2 : List (S25)) (l1_0 : List (List Int)) (l1_1 : List Int) (l1_2 : List (S25)) : Option (Bool) := (laws_eqLogic.f k l0_0 l0_1 l1_0 l1_1).bind fun t151 => (if t151 = true then ((laws_eqLogicS.f k l0_2 l1_2).bind fun t152 => (if t152 = true then (some true) else (some false))) else (some false))
set_option maxHeartbeats 8000000 in
set_option maxRecDepth 100000 in
theorem laws_eqDesk.calls (k : Nat) (A0_0 : Option Addr) (c0_0 : Nat) (l0_0 : List (List Int)) (A0_1 : Option Addr) (c0_1 : Nat) (l0_1 : List Int) (A0_2 : Option Addr) (c0_2 : Nat) (l0_2 : List (S25)) (A1_0 : Option Addr) (c1_0 : Nat) (l1_0 : List (List Int)) (A1_1 : Option Addr) (c1_1 : Nat) (l1_1 : List Int) (A1_2 : Option Addr) (c1_2 : Nat) (l1_2 : List (S25)) (r : Bool) (w : World) (hr0_0 : Kd.C (Kd.slice 3 (Kd.int .i64)) w A0_0 l0_0.length l0_0) (hc0_0 : l0_0.length ≤ c0_0) (hr0_1 : Kd.C (Kd.int .i64) w A0_1 l0_1.length l0_1) (hc0_1 : l0_1.length ≤ c0_1) (hr0_2 : Kd.C k25 w A0_2 l0_2.length l0_2) (hc0_2 : l0_2.length ≤ c0_2) (hr1_0 : Kd.C (Kd.slice 3 (Kd.int .i64)) w A1_0 l1_0.length l1_0) (hc1_0 : l1_0.length ≤ c1_0) (hr1_1 : Kd.C (Kd.int .i64) w A1_1 l1_1.length l1_1) (hc1_1 : l1_1.length ≤ c1_1) (hr1_2 : Kd.C k25 w A1_2 l1_2.length l1_2) (hc1_2 : l1_2.length ≤ c1_2) (h : laws_eqDesk.f k l0_0 l0_1 l0_2 l1_0 l1_1 l1_2 = some r) :
  Calls Try.prog 7 #[.agg #[.slice A0_0 l0_0.length c0_0, .slice A0_1 l0_1.length c0_1, .slice A0_2 l0_2.length c0_2], .agg #[.slice A1_0 l1_0.length c1_0, .slice A1_1 l1_1.length c1_1, .slice A1_2 l1_2.length c1_2]] w fun e w' => e = .returned (.bool r) ∧ Below w.heap.size w w' := by
 have hu28:=Try.underlying28;have hu25:=Try.underlying25;have b8:=zqm hr0_0;have b4:=zqm hc0_0;clear hr0_0 hc0_0;have b9:=zqm hr0_1;have b5:=zqm hc0_1;clear hr0_1 hc0_1;have d0:=zqm hr0_2;have c8:=zqm hc0_2;clear hr0_2 hc0_2;have c0:=zqm hr1_0;have b6:=zqm hc1_0;clear hr1_0 hc1_0;have c1:=zqm hr1_1;have b7:=zqm hc1_1;clear hr1_1 hc1_1;have d1:=zqm hr1_2;have c9:=zqm hc1_2;clear hr1_2 hc1_2;have HB:=zqm (Below.refl w.heap.size w);have H:((laws_eqLogic.f k l0_0 l0_1 l1_0 l1_1).bind fun c2=>(if c2=true then((laws_eqLogicS.f k l0_2 l1_2).bind fun c3=>(if c3=true then(some true) else(some false))) else(some false)))=some r:=h;clear h;replace H:=Option.bind_eq_some_iff.mp H;obtain⟨c2,d2,H⟩:=H;(try dsimp only at H);have A3:=zqm d2;clear d2
 by_cases c4:c2=true
 ·subst c4;rw [if_pos rfl] at H;replace H:=Option.bind_eq_some_iff.mp H;obtain⟨c3,d3,H⟩:=H;(try dsimp only at H);have A5:=zqm d3;clear d3
  by_cases c6:c3=true
  ·subst c6;rw [if_pos rfl] at H;obtain rfl:=Option.some.inj H
   go_enter Try.func7,Try.ntmps7
   go_wp2_with (first|((with_reducible refine gate_dst (N:=2) rfl ?_);refine box_event ?hg (N:=2) ?hd (cs:= #[.slice A0_0 l0_0.length c0_0,.slice A0_1 l0_1.length c0_1,.slice A0_2 l0_2.length c0_2]) (t:=28) ?hr ?_;(case hd=>rfl);(case hg=>rfl);(case hr=> exact zq6);intro a1 hg w7 hbox hb;have a8:=zqm (below_step zq0 hb);have a0:=zqm (hbox);have c5:=zqm ((by rw [hg];exact(below_size zq0):w.heap.size≤a1));have a4:=zqm ((by rw [hg];exact(below_size zq0):w.heap.size≤a1));clear HB;have HB:=a8;clear a8 hb hbox hg)|((with_reducible refine gate_dst (N:=3) rfl ?_);refine box_event ?hg (N:=3) ?hd (cs:= #[.slice A1_0 l1_0.length c1_0,.slice A1_1 l1_1.length c1_1,.slice A1_2 l1_2.length c1_2]) (t:=28) ?hr ?_;(case hd=>rfl);(case hg=>rfl);(case hr=> exact zq6);intro a3 hg w8 hbox hb;have a8:=zqm (blk_below (g:=a1) (o:= .cells #[.slice A0_0 l0_0.length c0_0,.slice A0_1 l0_1.length c0_1,.slice A0_2 l0_2.length c0_2] 28 (0,0)) (zqe a0.out) hb);have a9:=zqm (below_step zq1 hb);have a2:=zqm (hbox);have c7:=zqm ((by rw [hg];exact(below_size zq1):w.heap.size≤a3));have a5:=zqm ((by rw [hg];exact(below_size zq1):w.heap.size≤a3));have a6:=zqm ((by rw [hg];exact Nat.ne_of_lt (blk_lt (g:=a1) (o:= .cells #[.slice A0_0 l0_0.length c0_0,.slice A0_1 l0_1.length c0_1,.slice A0_2 l0_2.length c0_2] 28 (0,0)) (zqe a0.out)):a1≠a3));have a7:=zqm ((by rw [hg];exact Nat.ne_of_gt (blk_lt (g:=a1) (o:= .cells #[.slice A0_0 l0_0.length c0_0,.slice A0_1 l0_1.length c0_1,.slice A0_2 l0_2.length c0_2] 28 (0,0)) (zqe a0.out)):a3≠a1));clear a0 HB;have a0:=a8;have HB:=a9;clear a8 a9 hb hbox hg;have j8:=a6.out;have j9:=a7.out;have d4:w8.cell? ⟨a1,0,none⟩=some (.slice A0_0 l0_0.length c0_0):=(blk_cell a0.out 0).trans rfl;have d5:w8.cell? ⟨a1,1,none⟩=some (.slice A0_1 l0_1.length c0_1):=(blk_cell a0.out 1).trans rfl;have d6:w8.cell? ⟨a1,2,none⟩=some (.slice A0_2 l0_2.length c0_2):=(blk_cell a0.out 2).trans rfl;have g4:=blk_frozen a0.out 0;have g5:=blk_frozen a0.out 1;have g6:=blk_frozen a0.out 2;have d7:w8.cell? ⟨a3,0,none⟩=some (.slice A1_0 l1_0.length c1_0):=(blk_cell a2.out 0).trans rfl;have d8:w8.cell? ⟨a3,1,none⟩=some (.slice A1_1 l1_1.length c1_1):=(blk_cell a2.out 1).trans rfl;have d9:w8.cell? ⟨a3,2,none⟩=some (.slice A1_2 l1_2.length c1_2):=(blk_cell a2.out 2).trans rfl;have g7:=blk_frozen a2.out 0;have g8:=blk_frozen a2.out 1;have g9:=blk_frozen a2.out 2)|((with_reducible refine gate_callee (f:=16) rfl ?_);refine goesL_ (some 9) rfl rfl Try.func16 zqk rfl #[.agg #[.slice A0_0 l0_0.length c0_0,.slice A0_1 l0_1.length c0_1],.agg #[.slice A1_0 l1_0.length c1_0,.slice A1_1 l1_1.length c1_1]] rfl zq2 ?_;(with_reducible refine(laws_eqLogic.calls k _ _ l0_0 _ _ l0_1 _ _ l1_0 _ _ l1_1 true _ ?side1 ?side2 ?side3 ?side4 ?side5 ?side6 ?side7 ?side8 A3.out).mono ?_);(case side1=> exact zq43);(case side2=>exact b4.out);(case side3=> exact zq44);(case side4=>exact b5.out);(case side5=> exact zq45);(case side6=>exact b6.out);(case side7=> exact zq46);(case side8=>exact b7.out);rintro e b0 ⟨rfl,hb⟩;refine⟨_,rfl,?_⟩;replace a0:=zqm (blk_below (g:=a1) (o:= .cells #[.slice A0_0 l0_0.length c0_0,.slice A0_1 l0_1.length c0_1,.slice A0_2 l0_2.length c0_2] 28 (0,0)) (zqe a0.out) hb);replace a2:=zqm (blk_below (g:=a3) (o:= .cells #[.slice A1_0 l1_0.length c1_0,.slice A1_1 l1_1.length c1_1,.slice A1_2 l1_2.length c1_2] 28 (0,0)) (zqe a2.out) hb);replace HB:=zqm (below_step zq8 hb);clear hb;have e0:b0.cell? ⟨a1,0,none⟩=some (.slice A0_0 l0_0.length c0_0):=(blk_cell a0.out 0).trans rfl;have e1:b0.cell? ⟨a1,1,none⟩=some (.slice A0_1 l0_1.length c0_1):=(blk_cell a0.out 1).trans rfl;have e2:b0.cell? ⟨a1,2,none⟩=some (.slice A0_2 l0_2.length c0_2):=(blk_cell a0.out 2).trans rfl;have h0:=blk_frozen a0.out 0;have h1:=blk_frozen a0.out 1;have h2:=blk_frozen a0.out 2;have e3:b0.cell? ⟨a3,0,none⟩=some (.slice A1_0 l1_0.length c1_0):=(blk_cell a2.out 0).trans rfl;have e4:b0.cell? ⟨a3,1,none⟩=some (.slice A1_1 l1_1.length c1_1):=(blk_cell a2.out 1).trans rfl;have e5:b0.cell? ⟨a3,2,none⟩=some (.slice A1_2 l1_2.length c1_2):=(blk_cell a2.out 2).trans rfl;have h3:=blk_frozen a2.out 0;have h4:=blk_frozen a2.out 1;have h5:=blk_frozen a2.out 2)|((with_reducible refine gate_callee (f:=17) rfl ?_);refine goesL_ (some 15) rfl rfl Try.func17 zqk rfl #[.slice A0_2 l0_2.length c0_2,.slice A1_2 l1_2.length c1_2] rfl zq2 ?_;(with_reducible refine(laws_eqLogicS.calls k _ _ l0_2 _ _ l1_2 true _ ?side1 ?side2 ?side3 ?side4 A5.out).mono ?_);(case side1=> exact zq59);(case side2=>exact c8.out);(case side3=> exact zq60);(case side4=>exact c9.out);rintro e k0 ⟨rfl,hb⟩;refine⟨_,rfl,?_⟩;replace a0:=zqm (blk_below (g:=a1) (o:= .cells #[.slice A0_0 l0_0.length c0_0,.slice A0_1 l0_1.length c0_1,.slice A0_2 l0_2.length c0_2] 28 (0,0)) (zqe a0.out) hb);replace a2:=zqm (blk_below (g:=a3) (o:= .cells #[.slice A1_0 l1_0.length c1_0,.slice A1_1 l1_1.length c1_1,.slice A1_2 l1_2.length c1_2] 28 (0,0)) (zqe a2.out) hb);replace HB:=zqm (below_step zq8 hb);clear hb))
   go_ret
   exact⟨zq5,zq8⟩
  ·replace c6:=Bool.eq_false_iff.mpr c6;subst c6;rw [if_neg (show¬(false=true) by decide)] at H;obtain rfl:=Option.some.inj H
   go_enter Try.func7,Try.ntmps7
   go_wp2_with (first|((with_reducible refine gate_dst (N:=2) rfl ?_);refine box_event ?hg (N:=2) ?hd (cs:= #[.slice A0_0 l0_0.length c0_0,.slice A0_1 l0_1.length c0_1,.slice A0_2 l0_2.length c0_2]) (t:=28) ?hr ?_;(case hd=>rfl);(case hg=>rfl);(case hr=> exact zq6);intro a1 hg k1 hbox hb;have a8:=zqm (below_step zq0 hb);have a0:=zqm (hbox);have c5:=zqm ((by rw [hg];exact(below_size zq0):w.heap.size≤a1));have a4:=zqm ((by rw [hg];exact(below_size zq0):w.heap.size≤a1));clear HB;have HB:=a8;clear a8 hb hbox hg)|((with_reducible refine gate_dst (N:=3) rfl ?_);refine box_event ?hg (N:=3) ?hd (cs:= #[.slice A1_0 l1_0.length c1_0,.slice A1_1 l1_1.length c1_1,.slice A1_2 l1_2.length c1_2]) (t:=28) ?hr ?_;(case hd=>rfl);(case hg=>rfl);(case hr=> exact zq6);intro a3 hg b1 hbox hb;have a8:=zqm (blk_below (g:=a1) (o:= .cells #[.slice A0_0 l0_0.length c0_0,.slice A0_1 l0_1.length c0_1,.slice A0_2 l0_2.length c0_2] 28 (0,0)) (zqe a0.out) hb);have a9:=zqm (below_step zq1 hb);have a2:=zqm (hbox);have c7:=zqm ((by rw [hg];exact(below_size zq1):w.heap.size≤a3));have a5:=zqm ((by rw [hg];exact(below_size zq1):w.heap.size≤a3));have a6:=zqm ((by rw [hg];exact Nat.ne_of_lt (blk_lt (g:=a1) (o:= .cells #[.slice A0_0 l0_0.length c0_0,.slice A0_1 l0_1.length c0_1,.slice A0_2 l0_2.length c0_2] 28 (0,0)) (zqe a0.out)):a1≠a3));have a7:=zqm ((by rw [hg];exact Nat.ne_of_gt (blk_lt (g:=a1) (o:= .cells #[.slice A0_0 l0_0.length c0_0,.slice A0_1 l0_1.length c0_1,.slice A0_2 l0_2.length c0_2] 28 (0,0)) (zqe a0.out)):a3≠a1));clear a0 HB;have a0:=a8;have HB:=a9;clear a8 a9 hb hbox hg;have j4:=a6.out;have j6:=a7.out;have e6:b1.cell? ⟨a1,0,none⟩=some (.slice A0_0 l0_0.length c0_0):=(blk_cell a0.out 0).trans rfl;have e7:b1.cell? ⟨a1,1,none⟩=some (.slice A0_1 l0_1.length c0_1):=(blk_cell a0.out 1).trans rfl;have e8:b1.cell? ⟨a1,2,none⟩=some (.slice A0_2 l0_2.length c0_2):=(blk_cell a0.out 2).trans rfl;have h6:=blk_frozen a0.out 0;have h7:=blk_frozen a0.out 1;have h8:=blk_frozen a0.out 2;have e9:b1.cell? ⟨a3,0,none⟩=some (.slice A1_0 l1_0.length c1_0):=(blk_cell a2.out 0).trans rfl;have f0:b1.cell? ⟨a3,1,none⟩=some (.slice A1_1 l1_1.length c1_1):=(blk_cell a2.out 1).trans rfl;have f1:b1.cell? ⟨a3,2,none⟩=some (.slice A1_2 l1_2.length c1_2):=(blk_cell a2.out 2).trans rfl;have h9:=blk_frozen a2.out 0;have i0:=blk_frozen a2.out 1;have i1:=blk_frozen a2.out 2)|((with_reducible refine gate_callee (f:=16) rfl ?_);refine goesL_ (some 9) rfl rfl Try.func16 zqk rfl #[.agg #[.slice A0_0 l0_0.length c0_0,.slice A0_1 l0_1.length c0_1],.agg #[.slice A1_0 l1_0.length c1_0,.slice A1_1 l1_1.length c1_1]] rfl zq2 ?_;(with_reducible refine(laws_eqLogic.calls k _ _ l0_0 _ _ l0_1 _ _ l1_0 _ _ l1_1 true _ ?side1 ?side2 ?side3 ?side4 ?side5 ?side6 ?side7 ?side8 A3.out).mono ?_);(case side1=> exact zq43);(case side2=>exact b4.out);(case side3=> exact zq44);(case side4=>exact b5.out);(case side5=> exact zq45);(case side6=>exact b6.out);(case side7=> exact zq46);(case side8=>exact b7.out);rintro e b2 ⟨rfl,hb⟩;refine⟨_,rfl,?_⟩;replace a0:=zqm (blk_below (g:=a1) (o:= .cells #[.slice A0_0 l0_0.length c0_0,.slice A0_1 l0_1.length c0_1,.slice A0_2 l0_2.length c0_2] 28 (0,0)) (zqe a0.out) hb);replace a2:=zqm (blk_below (g:=a3) (o:= .cells #[.slice A1_0 l1_0.length c1_0,.slice A1_1 l1_1.length c1_1,.slice A1_2 l1_2.length c1_2] 28 (0,0)) (zqe a2.out) hb);replace HB:=zqm (below_step zq8 hb);clear hb;have f2:b2.cell? ⟨a1,0,none⟩=some (.slice A0_0 l0_0.length c0_0):=(blk_cell a0.out 0).trans rfl;have f3:b2.cell? ⟨a1,1,none⟩=some (.slice A0_1 l0_1.length c0_1):=(blk_cell a0.out 1).trans rfl;have f4:b2.cell? ⟨a1,2,none⟩=some (.slice A0_2 l0_2.length c0_2):=(blk_cell a0.out 2).trans rfl;have i2:=blk_frozen a0.out 0;have i3:=blk_frozen a0.out 1;have i4:=blk_frozen a0.out 2;have f5:b2.cell? ⟨a3,0,none⟩=some (.slice A1_0 l1_0.length c1_0):=(blk_cell a2.out 0).trans rfl;have f6:b2.cell? ⟨a3,1,none⟩=some (.slice A1_1 l1_1.length c1_1):=(blk_cell a2.out 1).trans rfl;have f7:b2.cell? ⟨a3,2,none⟩=some (.slice A1_2 l1_2.length c1_2):=(blk_cell a2.out 2).trans rfl;have i5:=blk_frozen a2.out 0;have i6:=blk_frozen a2.out 1;have i7:=blk_frozen a2.out 2)|((with_reducible refine gate_callee (f:=17) rfl ?_);refine goesL_ (some 15) rfl rfl Try.func17 zqk rfl #[.slice A0_2 l0_2.length c0_2,.slice A1_2 l1_2.length c1_2] rfl zq2 ?_;(with_reducible refine(laws_eqLogicS.calls k _ _ l0_2 _ _ l1_2 false _ ?side1 ?side2 ?side3 ?side4 A5.out).mono ?_);(case side1=> exact zq59);(case side2=>exact c8.out);(case side3=> exact zq60);(case side4=>exact c9.out);rintro e k2 ⟨rfl,hb⟩;refine⟨_,rfl,?_⟩;replace a0:=zqm (blk_below (g:=a1) (o:= .cells #[.slice A0_0 l0_0.length c0_0,.slice A0_1 l0_1.length c0_1,.slice A0_2 l0_2.length c0_2] 28 (0,0)) (zqe a0.out) hb);replace a2:=zqm (blk_below (g:=a3) (o:= .cells #[.slice A1_0 l1_0.length c1_0,.slice A1_1 l1_1.length c1_1,.slice A1_2 l1_2.length c1_2] 28 (0,0)) (zqe a2.out) hb);replace HB:=zqm (below_step zq8 hb);clear hb))
   go_ret
   exact⟨zq5,zq8⟩
 ·replace c4:=Bool.eq_false_iff.mpr c4;subst c4;rw [if_neg (show¬(false=true) by decide)] at H;obtain rfl:=Option.some.inj H
  go_enter Try.func7,Try.ntmps7
  go_wp2_with (first|((with_reducible refine gate_dst (N:=2) rfl ?_);refine box_event ?hg (N:=2) ?hd (cs:= #[.slice A0_0 l0_0.length c0_0,.slice A0_1 l0_1.length c0_1,.slice A0_2 l0_2.length c0_2]) (t:=28) ?hr ?_;(case hd=>rfl);(case hg=>rfl);(case hr=> exact zq6);intro a1 hg k3 hbox hb;have a8:=zqm (below_step zq0 hb);have a0:=zqm (hbox);have c5:=zqm ((by rw [hg];exact(below_size zq0):w.heap.size≤a1));have a4:=zqm ((by rw [hg];exact(below_size zq0):w.heap.size≤a1));clear HB;have HB:=a8;clear a8 hb hbox hg)|((with_reducible refine gate_dst (N:=3) rfl ?_);refine box_event ?hg (N:=3) ?hd (cs:= #[.slice A1_0 l1_0.length c1_0,.slice A1_1 l1_1.length c1_1,.slice A1_2 l1_2.length c1_2]) (t:=28) ?hr ?_;(case hd=>rfl);(case hg=>rfl);(case hr=> exact zq6);intro a3 hg b3 hbox hb;have a8:=zqm (blk_below (g:=a1) (o:= .cells #[.slice A0_0 l0_0.length c0_0,.slice A0_1 l0_1.length c0_1,.slice A0_2 l0_2.length c0_2] 28 (0,0)) (zqe a0.out) hb);have a9:=zqm (below_step zq1 hb);have a2:=zqm (hbox);have c7:=zqm ((by rw [hg];exact(below_size zq1):w.heap.size≤a3));have a5:=zqm ((by rw [hg];exact(below_size zq1):w.heap.size≤a3));have a6:=zqm ((by rw [hg];exact Nat.ne_of_lt (blk_lt (g:=a1) (o:= .cells #[.slice A0_0 l0_0.length c0_0,.slice A0_1 l0_1.length c0_1,.slice A0_2 l0_2.length c0_2] 28 (0,0)) (zqe a0.out)):a1≠a3));have a7:=zqm ((by rw [hg];exact Nat.ne_of_gt (blk_lt (g:=a1) (o:= .cells #[.slice A0_0 l0_0.length c0_0,.slice A0_1 l0_1.length c0_1,.slice A0_2 l0_2.length c0_2] 28 (0,0)) (zqe a0.out)):a3≠a1));clear a0 HB;have a0:=a8;have HB:=a9;clear a8 a9 hb hbox hg;have j5:=a6.out;have j7:=a7.out;have f8:b3.cell? ⟨a1,0,none⟩=some (.slice A0_0 l0_0.length c0_0):=(blk_cell a0.out 0).trans rfl;have f9:b3.cell? ⟨a1,1,none⟩=some (.slice A0_1 l0_1.length c0_1):=(blk_cell a0.out 1).trans rfl;have g0:b3.cell? ⟨a1,2,none⟩=some (.slice A0_2 l0_2.length c0_2):=(blk_cell a0.out 2).trans rfl;have i8:=blk_frozen a0.out 0;have i9:=blk_frozen a0.out 1;have j0:=blk_frozen a0.out 2;have g1:b3.cell? ⟨a3,0,none⟩=some (.slice A1_0 l1_0.length c1_0):=(blk_cell a2.out 0).trans rfl;have g2:b3.cell? ⟨a3,1,none⟩=some (.slice A1_1 l1_1.length c1_1):=(blk_cell a2.out 1).trans rfl;have g3:b3.cell? ⟨a3,2,none⟩=some (.slice A1_2 l1_2.length c1_2):=(blk_cell a2.out 2).trans rfl;have j1:=blk_frozen a2.out 0;have j2:=blk_frozen a2.out 1;have j3:=blk_frozen a2.out 2)|((with_reducible refine gate_callee (f:=16) rfl ?_);refine goesL_ (some 9) rfl rfl Try.func16 zqk rfl #[.agg #[.slice A0_0 l0_0.length c0_0,.slice A0_1 l0_1.length c0_1],.agg #[.slice A1_0 l1_0.length c1_0,.slice A1_1 l1_1.length c1_1]] rfl zq2 ?_;(with_reducible refine(laws_eqLogic.calls k _ _ l0_0 _ _ l0_1 _ _ l1_0 _ _ l1_1 false _ ?side1 ?side2 ?side3 ?side4 ?side5 ?side6 ?side7 ?side8 A3.out).mono ?_);(case side1=> exact zq43);(case side2=>exact b4.out);(case side3=> exact zq44);(case side4=>exact b5.out);(case side5=> exact zq45);(case side6=>exact b6.out);(case side7=> exact zq46);(case side8=>exact b7.out);rintro e k4 ⟨rfl,hb⟩;refine⟨_,rfl,?_⟩;replace a0:=zqm (blk_below (g:=a1) (o:= .cells #[.slice A0_0 l0_0.length c0_0,.slice A0_1 l0_1.length c0_1,.slice A0_2 l0_2.length c0_2] 28 (0,0)) (zqe a0.out) hb);replace a2:=zqm (blk_below (g:=a3) (o:= .cells #[.slice A1_0 l1_0.length c1_0,.slice A1_1 l1_1.length c1_1,.slice A1_2 l1_2.length c1_2] 28 (0,0)) (zqe a2.out) hb);replace HB:=zqm (below_step zq8 hb);clear hb))
  go_ret
  exact⟨zq5,zq8⟩
end
section
attribute [local go_sem] max2_int min2_int max_two min_two max_three min_three max_four min_four
def laws_heldIntSS.l0 : Nat → List (List Int) → Int → Int → Option (Int)
 | 0, _, _, _ => none
 | k + 1, x0, x1, x5 => if x5 < (x0.length : Int) then (if 0 ≤ x5 then ((laws_heldIntS.f k (rd_L1 x0 x5) x1).bind fun t160 => (if t160 < 0 then (some (-1)) else (laws_heldIntSS.l0 k x0 t160 (wrap64 (x5 + 1))))) else (none)) else (some x1)
def laws_heldIntSS.f (k : Nat) (l0 : List (List Int)) (a1 : Int) : Option (Int) := laws_heldIntSS.l0 k l0 a1 0
set_option maxHeartbeats 8000000 in
set_option maxRecDepth 100000 in
theorem laws_heldIntSS.calls (k : Nat) (A0 : Option Addr) (c0 : Nat) (l0 : List (List Int)) (a1 : Int) (r : Int) (w : World) (hr0 : Kd.C (Kd.slice 3 (Kd.int .i64)) w A0 l0.length l0) (hc0 : l0.length ≤ c0) (h : laws_heldIntSS.f k l0 a1 = some r) :
  Calls Try.prog 38 #[.slice A0 l0.length c0, .int .i64 a1] w fun e w' => e = .returned (.int .i64 r) ∧ Drawn0 w w' := by
 have b7:=zqm hr0;have c2:=zqm hc0;clear hr0 hc0;have H:(laws_heldIntSS.l0 k l0 a1 0)=some r:=h;clear h;have H':=zqm H;clear H
 go_enter Try.func38,Try.ntmps38
 go_wp2
 go_loopg [1,5] k (fun kq v1 v5 w'=> ∃(a6:Int) (a0:Int),v1= .int .i64 a6∧v5= .int .i64 a0∧Aside0 (laws_heldIntSS.l0 kq l0 a6 a0=some r)∧Aside0 (kq≤k)∧Drawn0 w w')
 case atStart=>exact⟨(a1),(0),zq7,zq7,H',⟨Nat.le_refl _⟩,zq11⟩
 case round=>
  clear H';(try clear p2);obtain⟨a6,a0,rfl,rfl,HA,b6,⟨m1,rfl⟩⟩:=hrel
  cases gk with
  |zero=>exact absurd HA.out (by simp [laws_heldIntSS.l0])
  |succ k1=>
   have H:=HA.out;clear HA;simp only [laws_heldIntSS.l0] at H
   by_cases c3:a0<(l0.length:Int)
   ·rw [if_pos c3] at H;have b8:decide (a0<(l0.length:Int))=true:=decide_eq_true c3;clear c3
    by_cases c4:0≤a0
    ·rw [if_pos c4] at H;have c1:decide (0≤a0)=true:=decide_eq_true c4;clear c4;replace H:=Option.bind_eq_some_iff.mp H;obtain⟨a9,b5,H⟩:=H;(try dsimp only at H);have A5:=zqm b5;clear b5
     by_cases c6:a9<0
     ·rw [if_pos c6] at H;have b9:decide (a9<0)=true:=decide_eq_true c6;clear c6;obtain rfl:=Option.some.inj H;have a4:0≤(a0:Int):=zqo;have a5:a0<(l0.length:Int):=zqo;obtain⟨b4,b0,b1,b2,b3,a3,a2⟩:=at_L1 b7.out a0 a4 a5
      cases b2
      have a8:=zqm a2;have a7:=zqm a3;clear a2 a3;replace a4:=eq_true a4;replace a5:=eq_true a5
      go_wp2_with (first|((with_reducible refine gate_callee (f:=39) rfl ?_);refine goesL_ (some 17) rfl rfl Try.func39 zqk rfl #[.slice b0 (rd_L1 l0 a0).length b1,.int .i64 a6] rfl zq2 ?_;(with_reducible refine(laws_heldIntS.calls k1 _ _ (rd_L1 l0 a0) a6 a9 _ ?side1 ?side2 A5.out).mono ?_);(case side1=> exact zq65);(case side2=>exact a7.out);rintro e w' ⟨rfl,⟨nd,rfl⟩⟩;refine⟨_,rfl,?_⟩))
      go_ret
      exact⟨zq7,zq11⟩
     ·rw [if_neg c6] at H;have b9:decide (a9<0)=false:=decide_eq_false c6;clear c6;have H':=zqm H;clear H;have a4:0≤(a0:Int):=zqo;have a5:a0<(l0.length:Int):=zqo;obtain⟨b4,b0,b1,b2,b3,a3,a2⟩:=at_L1 b7.out a0 a4 a5
      cases b2
      have a8:=zqm a2;have a7:=zqm a3;clear a2 a3;replace a4:=eq_true a4;replace a5:=eq_true a5
      go_wp2_with (first|((with_reducible refine gate_callee (f:=39) rfl ?_);refine goesL_ (some 17) rfl rfl Try.func39 zqk rfl #[.slice b0 (rd_L1 l0 a0).length b1,.int .i64 a6] rfl zq2 ?_;(with_reducible refine(laws_heldIntS.calls k1 _ _ (rd_L1 l0 a0) a6 a9 _ ?side1 ?side2 A5.out).mono ?_);(case side1=> exact zq65);(case side2=>exact a7.out);rintro e w' ⟨rfl,⟨nd,rfl⟩⟩;refine⟨_,rfl,?_⟩))
      go_roundg k1
      (case measure=>have:=b6.out;omega);case rel=>exact⟨(a9),(wrap64 (a0+1)),zq7,zq7,H',⟨by have:=b6.out;omega⟩,zq11⟩
    ·rw [if_neg c4] at H;exact absurd H (by simp)
   ·rw [if_neg c3] at H;have b8:decide (a0<(l0.length:Int))=false:=decide_eq_false c3;clear c3;obtain rfl:=Option.some.inj H
    go_wp2
    go_ret
    exact⟨zq7,zq11⟩
end
section
attribute [local go_sem] max2_int min2_int max_two min_two max_three min_three max_four min_four
def laws_heldLogic.f (k : Nat) (l0_0 : List (List Int)) (l0_1 : List Int) (a1 : Int) : Option (Int) := (laws_heldIntSS.f k l0_0 a1).bind fun t162 => (if t162 < 0 then (some (-1)) else ((laws_heldIntS.f k l0_1 t162).bind fun t163 => (if t163 < 0 then (some (-1)) else (some t163))))
set_option maxHeartbeats 8000000 in
set_option maxRecDepth 100000 in
theorem laws_heldLogic.calls (k : Nat) (A0_0 : Option Addr) (c0_0 : Nat) (l0_0 : List (List Int)) (A0_1 : Option Addr) (c0_1 : Nat) (l0_1 : List Int) (a1 : Int) (r : Int) (w : World) (hr0_0 : Kd.C (Kd.slice 3 (Kd.int .i64)) w A0_0 l0_0.length l0_0) (hc0_0 : l0_0.length ≤ c0_0) (hr0_1 : Kd.C (Kd.int .i64) w A0_1 l0_1.length l0_1) (hc0_1 : l0_1.length ≤ c0_1) (h : laws_heldLogic.f k l0_0 l0_1 a1 = some r) :
  Calls Try.prog 20 #[.agg #[.slice A0_0 l0_0.length c0_0, .slice A0_1 l0_1.length c0_1], .int .i64 a1] w fun e w' => e = .returned (.int .i64 r) ∧ Below w.heap.size w w' := by
 have hu25:=Try.underlying25;have a8:=zqm hr0_0;have a7:=zqm hc0_0;clear hr0_0 hc0_0;have b1:=zqm hr0_1;have b0:=zqm hc0_1;clear hr0_1 hc0_1;have HB:=zqm (Below.refl w.heap.size w);have H:((laws_heldIntSS.f k l0_0 a1).bind fun a3=>(if a3<0 then(some (-1)) else((laws_heldIntS.f k l0_1 a3).bind fun a5=>(if a5<0 then(some (-1)) else(some a5)))))=some r:=h;clear h;replace H:=Option.bind_eq_some_iff.mp H;obtain⟨a3,b2,H⟩:=H;(try dsimp only at H);have A3:=zqm b2;clear b2
 by_cases c4:a3<0
 ·rw [if_pos c4] at H;have b5:decide (a3<0)=true:=decide_eq_true c4;clear c4;obtain rfl:=Option.some.inj H
  go_enter Try.func20,Try.ntmps20
  go_wp2_with (first|((with_reducible refine gate_dst (N:=2) rfl ?_);refine box_event ?hg (N:=2) ?hd (cs:= #[.slice A0_0 l0_0.length c0_0,.slice A0_1 l0_1.length c0_1]) (t:=25) ?hr ?_;(case hd=>rfl);(case hg=>rfl);(case hr=> exact zq6);intro a2 hg w5 hbox hb;have a6:=zqm (below_step zq0 hb);have a0:=zqm (hbox);have a9:=zqm ((by rw [hg];exact(below_size zq0):w.heap.size≤a2));have a4:=zqm ((by rw [hg];exact(below_size zq0):w.heap.size≤a2));clear HB;have HB:=a6;clear a6 hb hbox hg;have c6:w5.cell? ⟨a2,0,none⟩=some (.slice A0_0 l0_0.length c0_0):=(blk_cell a0.out 0).trans rfl;have c7:w5.cell? ⟨a2,1,none⟩=some (.slice A0_1 l0_1.length c0_1):=(blk_cell a0.out 1).trans rfl;have c9:=blk_frozen a0.out 0;have d0:=blk_frozen a0.out 1)|((with_reducible refine gate_callee (f:=38) rfl ?_);refine goesL_ (some 8) rfl rfl Try.func38 zqk rfl #[.slice A0_0 l0_0.length c0_0,.int .i64 a1] rfl zq2 ?_;(with_reducible refine(laws_heldIntSS.calls k _ _ l0_0 a1 a3 _ ?side1 ?side2 A3.out).mono ?_);(case side1=> exact zq22);(case side2=>exact a7.out);rintro e w' ⟨rfl,⟨nd,rfl⟩⟩;refine⟨_,rfl,?_⟩))
  go_ret
  exact⟨zq5,zq1⟩
 ·rw [if_neg c4] at H;have b5:decide (a3<0)=false:=decide_eq_false c4;clear c4;replace H:=Option.bind_eq_some_iff.mp H;obtain⟨a5,b3,H⟩:=H;(try dsimp only at H);have A7:=zqm b3;clear b3
  by_cases c8:a5<0
  ·rw [if_pos c8] at H;have b6:decide (a5<0)=true:=decide_eq_true c8;clear c8;obtain rfl:=Option.some.inj H
   go_enter Try.func20,Try.ntmps20
   go_wp2_with (first|((with_reducible refine gate_dst (N:=2) rfl ?_);refine box_event ?hg (N:=2) ?hd (cs:= #[.slice A0_0 l0_0.length c0_0,.slice A0_1 l0_1.length c0_1]) (t:=25) ?hr ?_;(case hd=>rfl);(case hg=>rfl);(case hr=> exact zq6);intro a2 hg w9 hbox hb;have a6:=zqm (below_step zq0 hb);have a0:=zqm (hbox);have a9:=zqm ((by rw [hg];exact(below_size zq0):w.heap.size≤a2));have a4:=zqm ((by rw [hg];exact(below_size zq0):w.heap.size≤a2));clear HB;have HB:=a6;clear a6 hb hbox hg;have b7:w9.cell? ⟨a2,0,none⟩=some (.slice A0_0 l0_0.length c0_0):=(blk_cell a0.out 0).trans rfl;have b8:w9.cell? ⟨a2,1,none⟩=some (.slice A0_1 l0_1.length c0_1):=(blk_cell a0.out 1).trans rfl;have c1:=blk_frozen a0.out 0;have c2:=blk_frozen a0.out 1)|((with_reducible refine gate_callee (f:=38) rfl ?_);refine goesL_ (some 8) rfl rfl Try.func38 zqk rfl #[.slice A0_0 l0_0.length c0_0,.int .i64 a1] rfl zq2 ?_;(with_reducible refine(laws_heldIntSS.calls k _ _ l0_0 a1 a3 _ ?side1 ?side2 A3.out).mono ?_);(case side1=> exact zq22);(case side2=>exact a7.out);rintro e w' ⟨rfl,⟨nd,rfl⟩⟩;refine⟨_,rfl,?_⟩)|((with_reducible refine gate_callee (f:=39) rfl ?_);refine goesL_ (some 14) rfl rfl Try.func39 zqk rfl #[.slice A0_1 l0_1.length c0_1,.int .i64 a3] rfl zq2 ?_;(with_reducible refine(laws_heldIntS.calls k _ _ l0_1 a3 a5 _ ?side1 ?side2 A7.out).mono ?_);(case side1=> exact zq31);(case side2=>exact b0.out);rintro e w' ⟨rfl,⟨nd,rfl⟩⟩;refine⟨_,rfl,?_⟩))
   go_ret
   exact⟨zq5,zq1⟩
  ·rw [if_neg c8] at H;have b6:decide (a5<0)=false:=decide_eq_false c8;clear c8;obtain rfl:=Option.some.inj H
   go_enter Try.func20,Try.ntmps20
   go_wp2_with (first|((with_reducible refine gate_dst (N:=2) rfl ?_);refine box_event ?hg (N:=2) ?hd (cs:= #[.slice A0_0 l0_0.length c0_0,.slice A0_1 l0_1.length c0_1]) (t:=25) ?hr ?_;(case hd=>rfl);(case hg=>rfl);(case hr=> exact zq6);intro a2 hg b4 hbox hb;have a6:=zqm (below_step zq0 hb);have a0:=zqm (hbox);have a9:=zqm ((by rw [hg];exact(below_size zq0):w.heap.size≤a2));have a4:=zqm ((by rw [hg];exact(below_size zq0):w.heap.size≤a2));clear HB;have HB:=a6;clear a6 hb hbox hg;have b9:b4.cell? ⟨a2,0,none⟩=some (.slice A0_0 l0_0.length c0_0):=(blk_cell a0.out 0).trans rfl;have c0:b4.cell? ⟨a2,1,none⟩=some (.slice A0_1 l0_1.length c0_1):=(blk_cell a0.out 1).trans rfl;have c3:=blk_frozen a0.out 0;have c5:=blk_frozen a0.out 1)|((with_reducible refine gate_callee (f:=38) rfl ?_);refine goesL_ (some 8) rfl rfl Try.func38 zqk rfl #[.slice A0_0 l0_0.length c0_0,.int .i64 a1] rfl zq2 ?_;(with_reducible refine(laws_heldIntSS.calls k _ _ l0_0 a1 a3 _ ?side1 ?side2 A3.out).mono ?_);(case side1=> exact zq22);(case side2=>exact a7.out);rintro e w' ⟨rfl,⟨nd,rfl⟩⟩;refine⟨_,rfl,?_⟩)|((with_reducible refine gate_callee (f:=39) rfl ?_);refine goesL_ (some 14) rfl rfl Try.func39 zqk rfl #[.slice A0_1 l0_1.length c0_1,.int .i64 a3] rfl zq2 ?_;(with_reducible refine(laws_heldIntS.calls k _ _ l0_1 a3 a5 _ ?side1 ?side2 A7.out).mono ?_);(case side1=> exact zq31);(case side2=>exact b0.out);rintro e w' ⟨rfl,⟨nd,rfl⟩⟩;refine⟨_,rfl,?_⟩))
   go_ret
   exact⟨zq5,zq1⟩
end
section
attribute [local go_sem] max2_int min2_int max_two min_two max_three min_three max_four min_four
def laws_heldLogicS.l0 : Nat → List (S25) → Int → Int → Option (Int)
 | 0, _, _, _ => none
 | k + 1, x0, x1, x5 => if x5 < (x0.length : Int) then (if 0 ≤ x5 then ((laws_heldIntSS.f k ((rd_T25 x0 x5).f0) x1).bind fun t165 => (if t165 < 0 then (some (-1)) else ((laws_heldIntS.f k ((rd_T25 x0 x5).f1) t165).bind fun t167 => (if t167 < 0 then (some (-1)) else (laws_heldLogicS.l0 k x0 t167 (wrap64 (x5 + 1))))))) else (none)) else (some x1)
def laws_heldLogicS.f (k : Nat) (l0 : List (S25)) (a1 : Int) : Option (Int) := laws_heldLogicS.l0 k l0 a1 0
set_option maxHeartbeats 8000000 in
set_option maxRecDepth 100000 in
theorem laws_heldLogicS.calls (k : Nat) (A0 : Option Addr) (c0 : Nat) (l0 : List (S25)) (a1 : Int) (r : Int) (w : World) (hr0 : Kd.C k25 w A0 l0.length l0) (hc0 : l0.length ≤ c0) (h : laws_heldLogicS.f k l0 a1 = some r) :
  Calls Try.prog 21 #[.slice A0 l0.length c0, .int .i64 a1] w fun e w' => e = .returned (.int .i64 r) ∧ Drawn0 w w' := by
 have e0:=zqm hr0;have f7:=zqm hc0;clear hr0 hc0;have H:(laws_heldLogicS.l0 k l0 a1 0)=some r:=h;clear h;have H':=zqm H;clear H
 go_enter Try.func21,Try.ntmps21
 go_wp2
 go_loopg [1,5] k (fun kq v1 v5 w'=> ∃(b5:Int) (a0:Int),v1= .int .i64 b5∧v5= .int .i64 a0∧Aside0 (laws_heldLogicS.l0 kq l0 b5 a0=some r)∧Aside0 (kq≤k)∧Drawn0 w w')
 case atStart=>exact⟨(a1),(0),zq7,zq7,H',⟨Nat.le_refl _⟩,zq11⟩
 case round=>
  clear H';(try clear c2);(try clear p2);obtain⟨b5,a0,rfl,rfl,HA,f2,⟨m1,rfl⟩⟩:=hrel
  cases gk with
  |zero=>exact absurd HA.out (by simp [laws_heldLogicS.l0])
  |succ k1=>
   have H:=HA.out;clear HA;simp only [laws_heldLogicS.l0] at H
   by_cases c3:a0<(l0.length:Int)
   ·rw [if_pos c3] at H;have f3:decide (a0<(l0.length:Int))=true:=decide_eq_true c3;clear c3
    by_cases c4:0≤a0
    ·rw [if_pos c4] at H;have f6:decide (0≤a0)=true:=decide_eq_true c4;clear c4;replace H:=Option.bind_eq_some_iff.mp H;obtain⟨a8,e8,H⟩:=H;(try dsimp only at H);have A5:=zqm e8;clear e8
     by_cases c6:a8<0
     ·rw [if_pos c6] at H;have f4:decide (a8<0)=true:=decide_eq_true c6;clear c6;obtain rfl:=Option.some.inj H;have a6:0≤(a0:Int):=zqo;have a7:a0<(l0.length:Int):=zqo;obtain⟨d5,b6,b7,c7,c9,d6,b8,b9,a4,a2,a5,a3⟩:=at_T25 e0.out a0 a6 a7
      cases d6
      have b0:=zqm a2;have a9:=zqm a4;clear a2 a4;have d8:=zqm a3;have d7:=zqm a5;clear a3 a5;replace a6:=eq_true a6;replace a7:=eq_true a7
      go_wp2_with (first|((with_reducible refine gate_callee (f:=38) rfl ?_);refine goesL_ (some 18) rfl rfl Try.func38 zqk rfl #[.slice b6 ((rd_T25 l0 a0).f0).length b7,.int .i64 b5] rfl zq2 ?_;(with_reducible refine(laws_heldIntSS.calls k1 _ _ ((rd_T25 l0 a0).f0) b5 a8 _ ?side1 ?side2 A5.out).mono ?_);(case side1=> exact zq49);(case side2=>exact a9.out);rintro e w' ⟨rfl,⟨nd,rfl⟩⟩;refine⟨_,rfl,?_⟩))
      go_ret
      exact⟨zq7,zq11⟩
     ·rw [if_neg c6] at H;have f4:decide (a8<0)=false:=decide_eq_false c6;clear c6;replace H:=Option.bind_eq_some_iff.mp H;obtain⟨d4,e9,H⟩:=H;(try dsimp only at H);have A7:=zqm e9;clear e9
      by_cases c8:d4<0
      ·rw [if_pos c8] at H;have f5:decide (d4<0)=true:=decide_eq_true c8;clear c8;obtain rfl:=Option.some.inj H;have a6:0≤(a0:Int):=zqo;have a7:a0<(l0.length:Int):=zqo;obtain⟨d5,b6,b7,c7,c9,d6,b8,b9,a4,a2,a5,a3⟩:=at_T25 e0.out a0 a6 a7
       cases d6
       have b0:=zqm a2;have a9:=zqm a4;clear a2 a4;have d8:=zqm a3;have d7:=zqm a5;clear a3 a5;replace a6:=eq_true a6;replace a7:=eq_true a7
       go_wp2_with (first|((with_reducible refine gate_callee (f:=38) rfl ?_);refine goesL_ (some 18) rfl rfl Try.func38 zqk rfl #[.slice b6 ((rd_T25 l0 a0).f0).length b7,.int .i64 b5] rfl zq2 ?_;(with_reducible refine(laws_heldIntSS.calls k1 _ _ ((rd_T25 l0 a0).f0) b5 a8 _ ?side1 ?side2 A5.out).mono ?_);(case side1=> exact zq49);(case side2=>exact a9.out);rintro e w' ⟨rfl,⟨nd,rfl⟩⟩;refine⟨_,rfl,?_⟩;have c1:0≤(a0:Int):=zqo;have c5:a0<(l0.length:Int):=zqo;obtain⟨d9,e4,e6,e5,e7,e1,d2,d3,b3,b1,b4,b2⟩:=at_T25 e0.out a0 c1 c5;obtain rfl:d5=d9:=(by injection e1);have e3:=zqm b1;have e2:=zqm b3;clear b1 b3;have d1:=zqm b2;have d0:=zqm b4;clear b2 b4;replace c1:=eq_true c1;replace c5:=eq_true c5;have ea_:=Option.some.inj (b8.symm.trans d2);injection ea_ with ea_ en_ ec_;subst ea_;subst ec_;clear en_;have ea_:=Option.some.inj (b9.symm.trans d3);injection ea_ with ea_ en_ ec_;subst ea_;subst ec_;clear en_)|((with_reducible refine gate_callee (f:=39) rfl ?_);refine goesL_ (some 27) rfl rfl Try.func39 zqk rfl #[.slice c7 ((rd_T25 l0 a0).f1).length c9,.int .i64 a8] rfl zq2 ?_;(with_reducible refine(laws_heldIntS.calls k1 _ _ ((rd_T25 l0 a0).f1) a8 d4 _ ?side1 ?side2 A7.out).mono ?_);(case side1=> exact zq66);(case side2=>exact d0.out);rintro e w' ⟨rfl,⟨nd,rfl⟩⟩;refine⟨_,rfl,?_⟩))
       go_ret
       exact⟨zq7,zq11⟩
      ·rw [if_neg c8] at H;have f5:decide (d4<0)=false:=decide_eq_false c8;clear c8;have H':=zqm H;clear H;have a6:0≤(a0:Int):=zqo;have a7:a0<(l0.length:Int):=zqo;obtain⟨d5,b6,b7,c7,c9,d6,b8,b9,a4,a2,a5,a3⟩:=at_T25 e0.out a0 a6 a7
       cases d6
       have b0:=zqm a2;have a9:=zqm a4;clear a2 a4;have d8:=zqm a3;have d7:=zqm a5;clear a3 a5;replace a6:=eq_true a6;replace a7:=eq_true a7
       go_wp2_with (first|((with_reducible refine gate_callee (f:=38) rfl ?_);refine goesL_ (some 18) rfl rfl Try.func38 zqk rfl #[.slice b6 ((rd_T25 l0 a0).f0).length b7,.int .i64 b5] rfl zq2 ?_;(with_reducible refine(laws_heldIntSS.calls k1 _ _ ((rd_T25 l0 a0).f0) b5 a8 _ ?side1 ?side2 A5.out).mono ?_);(case side1=> exact zq49);(case side2=>exact a9.out);rintro e w' ⟨rfl,⟨nd,rfl⟩⟩;refine⟨_,rfl,?_⟩;have c1:0≤(a0:Int):=zqo;have c5:a0<(l0.length:Int):=zqo;obtain⟨d9,e4,e6,e5,e7,e1,d2,d3,b3,b1,b4,b2⟩:=at_T25 e0.out a0 c1 c5;obtain rfl:d5=d9:=(by injection e1);have e3:=zqm b1;have e2:=zqm b3;clear b1 b3;have d1:=zqm b2;have d0:=zqm b4;clear b2 b4;replace c1:=eq_true c1;replace c5:=eq_true c5;have ea_:=Option.some.inj (b8.symm.trans d2);injection ea_ with ea_ en_ ec_;subst ea_;subst ec_;clear en_;have ea_:=Option.some.inj (b9.symm.trans d3);injection ea_ with ea_ en_ ec_;subst ea_;subst ec_;clear en_)|((with_reducible refine gate_callee (f:=39) rfl ?_);refine goesL_ (some 27) rfl rfl Try.func39 zqk rfl #[.slice c7 ((rd_T25 l0 a0).f1).length c9,.int .i64 a8] rfl zq2 ?_;(with_reducible refine(laws_heldIntS.calls k1 _ _ ((rd_T25 l0 a0).f1) a8 d4 _ ?side1 ?side2 A7.out).mono ?_);(case side1=> exact zq66);(case side2=>exact d0.out);rintro e w' ⟨rfl,⟨nd,rfl⟩⟩;refine⟨_,rfl,?_⟩))
       go_roundg k1
       (case measure=>have:=f2.out;omega);case rel=>exact⟨(d4),(wrap64 (a0+1)),zq7,zq7,H',⟨by have:=f2.out;omega⟩,zq11⟩
    ·rw [if_neg c4] at H;exact absurd H (by simp)
   ·rw [if_neg c3] at H;have f3:decide (a0<(l0.length:Int))=false:=decide_eq_false c3;clear c3;obtain rfl:=Option.some.inj H
    go_wp2
    go_ret
    exact⟨zq7,zq11⟩
end
section
attribute [local go_sem] max2_int min2_int max_two min_two max_three min_three max_four min_four
def laws_heldDesk.f (k : Nat) (l0_0 : List (List Int)) (l0_1 : List Int) (l0_2 : List (S25)) (a1 : Int) : Option (Int) := (laws_heldLogic.f k l0_0 l0_1 a1).bind fun t169 => (if t169 < 0 then (some (-1)) else ((laws_heldLogicS.f k l0_2 t169).bind fun t170 => (if t170 < 0 then (some (-1)) else (some t170))))
set_option maxHeartbeats 8000000 in
set_option maxRecDepth 100000 in
theorem laws_heldDesk.calls (k : Nat) (A0_0 : Option Addr) (c0_0 : Nat) (l0_0 : List (List Int)) (A0_1 : Option Addr) (c0_1 : Nat) (l0_1 : List Int) (A0_2 : Option Addr) (c0_2 : Nat) (l0_2 : List (S25)) (a1 : Int) (r : Int) (w : World) (hr0_0 : Kd.C (Kd.slice 3 (Kd.int .i64)) w A0_0 l0_0.length l0_0) (hc0_0 : l0_0.length ≤ c0_0) (hr0_1 : Kd.C (Kd.int .i64) w A0_1 l0_1.length l0_1) (hc0_1 : l0_1.length ≤ c0_1) (hr0_2 : Kd.C k25 w A0_2 l0_2.length l0_2) (hc0_2 : l0_2.length ≤ c0_2) (h : laws_heldDesk.f k l0_0 l0_1 l0_2 a1 = some r) :
  Calls Try.prog 9 #[.agg #[.slice A0_0 l0_0.length c0_0, .slice A0_1 l0_1.length c0_1, .slice A0_2 l0_2.length c0_2], .int .i64 a1] w fun e w' => e = .returned (.int .i64 r) ∧ Below w.heap.size w w' := by
 have hu28:=Try.underlying28;have hu25:=Try.underlying25;have a9:=zqm hr0_0;have a7:=zqm hc0_0;clear hr0_0 hc0_0;have b0:=zqm hr0_1;have a8:=zqm hc0_1;clear hr0_1 hc0_1;have b3:=zqm hr0_2;have b2:=zqm hc0_2;clear hr0_2 hc0_2;have HB:=zqm (Below.refl w.heap.size w);have H:((laws_heldLogic.f k l0_0 l0_1 a1).bind fun a3=>(if a3<0 then(some (-1)) else((laws_heldLogicS.f k l0_2 a3).bind fun a5=>(if a5<0 then(some (-1)) else(some a5)))))=some r:=h;clear h;replace H:=Option.bind_eq_some_iff.mp H;obtain⟨a3,b8,H⟩:=H;(try dsimp only at H);have A3:=zqm b8;clear b8
 by_cases c4:a3<0
 ·rw [if_pos c4] at H;have c0:decide (a3<0)=true:=decide_eq_true c4;clear c4;obtain rfl:=Option.some.inj H
  go_enter Try.func9,Try.ntmps9
  go_wp2_with (first|((with_reducible refine gate_dst (N:=2) rfl ?_);refine box_event ?hg (N:=2) ?hd (cs:= #[.slice A0_0 l0_0.length c0_0,.slice A0_1 l0_1.length c0_1,.slice A0_2 l0_2.length c0_2]) (t:=28) ?hr ?_;(case hd=>rfl);(case hg=>rfl);(case hr=> exact zq6);intro a2 hg w5 hbox hb;have a6:=zqm (below_step zq0 hb);have a0:=zqm (hbox);have b1:=zqm ((by rw [hg];exact(below_size zq0):w.heap.size≤a2));have a4:=zqm ((by rw [hg];exact(below_size zq0):w.heap.size≤a2));clear HB;have HB:=a6;clear a6 hb hbox hg;have e8:w5.cell? ⟨a2,0,none⟩=some (.slice A0_0 l0_0.length c0_0):=(blk_cell a0.out 0).trans rfl;have e9:w5.cell? ⟨a2,1,none⟩=some (.slice A0_1 l0_1.length c0_1):=(blk_cell a0.out 1).trans rfl;have f0:w5.cell? ⟨a2,2,none⟩=some (.slice A0_2 l0_2.length c0_2):=(blk_cell a0.out 2).trans rfl;have f1:=blk_frozen a0.out 0;have f2:=blk_frozen a0.out 1;have f3:=blk_frozen a0.out 2)|((with_reducible refine gate_callee (f:=20) rfl ?_);refine goesL_ (some 8) rfl rfl Try.func20 zqk rfl #[.agg #[.slice A0_0 l0_0.length c0_0,.slice A0_1 l0_1.length c0_1],.int .i64 a1] rfl zq2 ?_;(with_reducible refine(laws_heldLogic.calls k _ _ l0_0 _ _ l0_1 a1 a3 _ ?side1 ?side2 ?side3 ?side4 A3.out).mono ?_);(case side1=> exact zq40);(case side2=>exact a7.out);(case side3=> exact zq41);(case side4=>exact a8.out);rintro e w7 ⟨rfl,hb⟩;refine⟨_,rfl,?_⟩;replace a0:=zqm (blk_below (g:=a2) (o:= .cells #[.slice A0_0 l0_0.length c0_0,.slice A0_1 l0_1.length c0_1,.slice A0_2 l0_2.length c0_2] 28 (0,0)) (zqe a0.out) hb);replace HB:=zqm (below_step zq1 hb);clear hb))
  go_ret
  exact⟨zq5,zq1⟩
 ·rw [if_neg c4] at H;have c0:decide (a3<0)=false:=decide_eq_false c4;clear c4;replace H:=Option.bind_eq_some_iff.mp H;obtain⟨a5,b9,H⟩:=H;(try dsimp only at H);have A8:=zqm b9;clear b9
  by_cases c9:a5<0
  ·rw [if_pos c9] at H;have c1:decide (a5<0)=true:=decide_eq_true c9;clear c9;obtain rfl:=Option.some.inj H
   go_enter Try.func9,Try.ntmps9
   go_wp2_with (first|((with_reducible refine gate_dst (N:=2) rfl ?_);refine box_event ?hg (N:=2) ?hd (cs:= #[.slice A0_0 l0_0.length c0_0,.slice A0_1 l0_1.length c0_1,.slice A0_2 l0_2.length c0_2]) (t:=28) ?hr ?_;(case hd=>rfl);(case hg=>rfl);(case hr=> exact zq6);intro a2 hg b4 hbox hb;have a6:=zqm (below_step zq0 hb);have a0:=zqm (hbox);have b1:=zqm ((by rw [hg];exact(below_size zq0):w.heap.size≤a2));have a4:=zqm ((by rw [hg];exact(below_size zq0):w.heap.size≤a2));clear HB;have HB:=a6;clear a6 hb hbox hg;have c2:b4.cell? ⟨a2,0,none⟩=some (.slice A0_0 l0_0.length c0_0):=(blk_cell a0.out 0).trans rfl;have c3:b4.cell? ⟨a2,1,none⟩=some (.slice A0_1 l0_1.length c0_1):=(blk_cell a0.out 1).trans rfl;have c5:b4.cell? ⟨a2,2,none⟩=some (.slice A0_2 l0_2.length c0_2):=(blk_cell a0.out 2).trans rfl;have d6:=blk_frozen a0.out 0;have d7:=blk_frozen a0.out 1;have d8:=blk_frozen a0.out 2)|((with_reducible refine gate_callee (f:=20) rfl ?_);refine goesL_ (some 8) rfl rfl Try.func20 zqk rfl #[.agg #[.slice A0_0 l0_0.length c0_0,.slice A0_1 l0_1.length c0_1],.int .i64 a1] rfl zq2 ?_;(with_reducible refine(laws_heldLogic.calls k _ _ l0_0 _ _ l0_1 a1 a3 _ ?side1 ?side2 ?side3 ?side4 A3.out).mono ?_);(case side1=> exact zq40);(case side2=>exact a7.out);(case side3=> exact zq41);(case side4=>exact a8.out);rintro e b5 ⟨rfl,hb⟩;refine⟨_,rfl,?_⟩;replace a0:=zqm (blk_below (g:=a2) (o:= .cells #[.slice A0_0 l0_0.length c0_0,.slice A0_1 l0_1.length c0_1,.slice A0_2 l0_2.length c0_2] 28 (0,0)) (zqe a0.out) hb);replace HB:=zqm (below_step zq1 hb);clear hb;have c6:b5.cell? ⟨a2,0,none⟩=some (.slice A0_0 l0_0.length c0_0):=(blk_cell a0.out 0).trans rfl;have c7:b5.cell? ⟨a2,1,none⟩=some (.slice A0_1 l0_1.length c0_1):=(blk_cell a0.out 1).trans rfl;have c8:b5.cell? ⟨a2,2,none⟩=some (.slice A0_2 l0_2.length c0_2):=(blk_cell a0.out 2).trans rfl;have d9:=blk_frozen a0.out 0;have e0:=blk_frozen a0.out 1;have e1:=blk_frozen a0.out 2)|((with_reducible refine gate_callee (f:=21) rfl ?_);refine goesL_ (some 14) rfl rfl Try.func21 zqk rfl #[.slice A0_2 l0_2.length c0_2,.int .i64 a3] rfl zq2 ?_;(with_reducible refine(laws_heldLogicS.calls k _ _ l0_2 a3 a5 _ ?side1 ?side2 A8.out).mono ?_);(case side1=> exact zq23);(case side2=>exact b2.out);rintro e w' ⟨rfl,⟨nd,rfl⟩⟩;refine⟨_,rfl,?_⟩))
   go_ret
   exact⟨zq5,zq1⟩
  ·rw [if_neg c9] at H;have c1:decide (a5<0)=false:=decide_eq_false c9;clear c9;obtain rfl:=Option.some.inj H
   go_enter Try.func9,Try.ntmps9
   go_wp2_with (first|((with_reducible refine gate_dst (N:=2) rfl ?_);refine box_event ?hg (N:=2) ?hd (cs:= #[.slice A0_0 l0_0.length c0_0,.slice A0_1 l0_1.length c0_1,.slice A0_2 l0_2.length c0_2]) (t:=28) ?hr ?_;(case hd=>rfl);(case hg=>rfl);(case hr=> exact zq6);intro a2 hg b6 hbox hb;have a6:=zqm (below_step zq0 hb);have a0:=zqm (hbox);have b1:=zqm ((by rw [hg];exact(below_size zq0):w.heap.size≤a2));have a4:=zqm ((by rw [hg];exact(below_size zq0):w.heap.size≤a2));clear HB;have HB:=a6;clear a6 hb hbox hg;have d0:b6.cell? ⟨a2,0,none⟩=some (.slice A0_0 l0_0.length c0_0):=(blk_cell a0.out 0).trans rfl;have d1:b6.cell? ⟨a2,1,none⟩=some (.slice A0_1 l0_1.length c0_1):=(blk_cell a0.out 1).trans rfl;have d2:b6.cell? ⟨a2,2,none⟩=some (.slice A0_2 l0_2.length c0_2):=(blk_cell a0.out 2).trans rfl;have e2:=blk_frozen a0.out 0;have e3:=blk_frozen a0.out 1;have e4:=blk_frozen a0.out 2)|((with_reducible refine gate_callee (f:=20) rfl ?_);refine goesL_ (some 8) rfl rfl Try.func20 zqk rfl #[.agg #[.slice A0_0 l0_0.length c0_0,.slice A0_1 l0_1.length c0_1],.int .i64 a1] rfl zq2 ?_;(with_reducible refine(laws_heldLogic.calls k _ _ l0_0 _ _ l0_1 a1 a3 _ ?side1 ?side2 ?side3 ?side4 A3.out).mono ?_);(case side1=> exact zq40);(case side2=>exact a7.out);(case side3=> exact zq41);(case side4=>exact a8.out);rintro e b7 ⟨rfl,hb⟩;refine⟨_,rfl,?_⟩;replace a0:=zqm (blk_below (g:=a2) (o:= .cells #[.slice A0_0 l0_0.length c0_0,.slice A0_1 l0_1.length c0_1,.slice A0_2 l0_2.length c0_2] 28 (0,0)) (zqe a0.out) hb);replace HB:=zqm (below_step zq1 hb);clear hb;have d3:b7.cell? ⟨a2,0,none⟩=some (.slice A0_0 l0_0.length c0_0):=(blk_cell a0.out 0).trans rfl;have d4:b7.cell? ⟨a2,1,none⟩=some (.slice A0_1 l0_1.length c0_1):=(blk_cell a0.out 1).trans rfl;have d5:b7.cell? ⟨a2,2,none⟩=some (.slice A0_2 l0_2.length c0_2):=(blk_cell a0.out 2).trans rfl;have e5:=blk_frozen a0.out 0;have e6:=blk_frozen a0.out 1;have e7:=blk_frozen a0.out 2)|((with_reducible refine gate_callee (f:=21) rfl ?_);refine goesL_ (some 14) rfl rfl Try.func21 zqk rfl #[.slice A0_2 l0_2.length c0_2,.int .i64 a3] rfl zq2 ?_;(with_reducible refine(laws_heldLogicS.calls k _ _ l0_2 a3 a5 _ ?side1 ?side2 A8.out).mono ?_);(case side1=> exact zq23);(case side2=>exact b2.out);rintro e w' ⟨rfl,⟨nd,rfl⟩⟩;refine⟨_,rfl,?_⟩))
   go_ret
   exact⟨zq5,zq1⟩
end
section
attribute [local go_sem] max2_int min2_int max_two min_two max_three min_three max_four min_four
def spec_l1In.f (a0 : Int) (a1 : Int) (a2 : Int) : Option (Bool) := if a0 ≥ a1 then (some (decide (a0 ≤ a2))) else (some false)
set_option maxHeartbeats 8000000 in
set_option maxRecDepth 100000 in
theorem spec_l1In.calls (a0 : Int) (a1 : Int) (a2 : Int) (r : Bool) (w : World) (h : spec_l1In.f a0 a1 a2 = some r) :
  Calls Try.prog 30 #[.int .i64 a0, .int .i64 a1, .int .i64 a2] w fun e w' => e = .returned (.bool r) ∧ Drawn0 w w' := by
 have H : (if a0 ≥ a1 then (some (decide (a0 ≤ a2))) else (some false)) = some r := h
 clear h
 by_cases c4 : a0 ≥ a1
 ·rw [if_pos c4] at H
  have c4b0 : decide (a1 ≤ a0) = true := decide_eq_true c4
  clear c4
  obtain rfl := Option.some.inj H
  go_enter Try.func30, Try.ntmps30
  go_wp2
  go_ret
  exact ⟨zq61, by repeat (first | exact Drawn0.refl _ | apply Drawn0.step)⟩
 ·rw [if_neg c4] at H
  have c4b0 : decide (a1 ≤ a0) = false := decide_eq_false c4
  clear c4
  obtain rfl := Option.some.inj H
  go_enter Try.func30, Try.ntmps30
  go_wp2
  go_ret
  exact ⟨zq61, by repeat (first | exact Drawn0.refl _ | apply Drawn0.step)⟩
end
section
attribute [local go_sem] max2_int min2_int max_two min_two max_three min_three max_four min_four
mutual
def spec_SetsOf.l0 : Nat → Int → Int → List (List Int) → List Int → Option ((List (List Int)) × List Int × Bool)
 | 0, _, _, _, _ => none
 | k + 1, x0, x5, x103000, x103001 => if 0 ≤ x0 then (if x5 < (shl .i64 1 x0) then (spec_SetsOf.l1 k x0 x5 (([] : List Int)) 0 x103000 x103001) else (some (x103000, x103001, true))) else (none)
def spec_SetsOf.l1 : Nat → Int → Int → List Int → Int → List (List Int) → List Int → Option ((List (List Int)) × List Int × Bool)
 | 0, _, _, _, _, _, _ => none
 | k + 1, x0, x5, x6, x7, x103000, x103001 => if 0 ≤ x0 then (if x7 < (shl .i64 1 x0) then (if (Go.bits .and .i64 x5 x7) = x5 then (if x6.length < 17592186044416 then (spec_SetsOf.l1 k x0 x5 (x6 ++ [1]) (wrap64 (x7 + 1)) x103000 x103001) else (none)) else (if x6.length < 17592186044416 then (spec_SetsOf.l1 k x0 x5 (x6 ++ [0]) (wrap64 (x7 + 1)) x103000 x103001) else (none))) else (if x103000.length < 5864062014805 then (if x103001.length < 17592186044416 then (spec_SetsOf.l0 k x0 (wrap64 (x5 + 1)) (x103000 ++ [x6]) (x103001 ++ [wrap64 ((wrap64 ((shl .i64 1 x0) - 1)) - x5)])) else (none)) else (none))) else (none)
end
def spec_SetsOf.f (k : Nat) (a0 : Int) : Option ((List (List Int)) × List Int × Bool) := (spec_l1In.f a0 0 3).bind fun t103 => (if t103 = true then (spec_SetsOf.l0 k a0 0 ([] : List (List Int)) ([] : List Int)) else (some (([] : List (List Int)), ([] : List Int), false)))
def spec_SetsOf.T16 : Bool × List (List Nat × List Nat) := (true, [([], []), ([0], [0]), ([], []), ([2], [2]), ([3], [3]), ([], []), ([4, 5], [4, 5]), ([6], [6]), ([1, 7], [1, 7]), ([0, 1, 2, 3, 4, 5, 6, 7, 8], []), ([9, 8, 8, 0, 1, 2, 3, 4, 5, 6, 7, 8], [8, 9])])
def spec_SetsOf.B16 : List Nat := [0, 1, 0, 4, 12, 0, 60, 124, 255, 511, 1023]
theorem spec_SetsOf.tab16 : rtab .any (opsOf Try.f14 16) = spec_SetsOf.T16 := by kernel_rfl
theorem spec_SetsOf.bits16 : waitsOk spec_SetsOf.T16.2 spec_SetsOf.B16 = true := by kernel_rfl
set_option maxHeartbeats 8000000 in
set_option maxRecDepth 100000 in
theorem spec_SetsOf.calls (k : Nat) (a0 : Int) (r1 : List (List Int)) (r2 : List Int) (r3 : Bool) (w : World) (h : spec_SetsOf.f k a0 = some (r1, r2, r3)) :
  Calls Try.prog 14 #[.int .i64 a0] w fun e w' => ∃ v0_ v1_ : Value, e = .returned (.tuple #[.agg #[v0_, v1_], .bool r3]) ∧ Kd.S (Kd.slice 3 (Kd.int .i64)) 23 w' w.heap.size (fun k_ => some k_ ≠ (v1_ : Value).ownBlock) v0_ r1 ∧ Kd.R (Kd.int .i64) 3 w' w.heap.size (fun _ => True) v1_ r2 ∧ Below w.heap.size w w' := by
 have hu25:=Try.underlying25;have HB:=zqm (Below.refl w.heap.size w);have H:((spec_l1In.f a0 0 3).bind fun e5=>(if e5=true then(spec_SetsOf.l0 k a0 0 ([]:List (List Int)) ([]:List Int)) else(some (([]:List (List Int)),([]:List Int),false))))=some (r1,r2,r3):=h;clear h;replace H:=Option.bind_eq_some_iff.mp H;obtain⟨e5,i6,H⟩:=H;replace H:(if e5=true then(spec_SetsOf.l0 k a0 0 ([]:List (List Int)) ([]:List Int)) else(some (([]:List (List Int)),([]:List Int),false)))=some (r1,r2,r3):=H;have A2:=zqm i6;clear i6
 by_cases c3:e5=true
 ·subst c3;(have H1:(spec_SetsOf.l0 k a0 0 ([]:List (List Int)) ([]:List Int))=some (r1,r2,r3):=by rw [if_pos rfl] at H;exact H);clear H;have H:=H1;clear H1;have H':=zqm H;clear H
  go_enter Try.func14,Try.ntmps14
  go_wp2_with (first|((with_reducible refine gate_dst (N:=2) rfl ?_);refine box_event ?hg (N:=2) ?hd (cs:= #[.slice none 0 0,.slice none 0 0]) (t:=25) ?hr ?_;(case hd=>rfl);(case hg=>rfl);(case hr=> exact zq6);intro a7 hg w4 hbox hb;have c2:=zqm (below_step zq0 hb);have a2:=zqm (hbox);have h4:=zqm ((by rw [hg];exact(below_size zq0):w.heap.size≤a7));have a9:=zqm ((by rw [hg];exact(below_size zq0):w.heap.size≤a7));clear HB;have HB:=c2;clear c2 hb hbox hg)|((with_reducible refine gate_dst (N:=4) rfl ?_);refine box_event ?hg (N:=4) ?hd (cs:= #[.slice none 0 0,.slice none 0 0]) (t:=25) ?hr ?_;(case hd=>rfl);(case hg=>rfl);(case hr=> exact zq6);intro a5 hg w5 hbox hb;have c2:=zqm (blk_below (g:=a7) (o:= .cells #[.slice none 0 0,.slice none 0 0] 25 (0,0)) (zqe a2.out) hb);have c4:=zqm (below_step zq16 hb);have a1:=zqm (hbox);have h5:=zqm ((by rw [hg];exact(below_size zq16):w.heap.size≤a5));have b2:=zqm ((by rw [hg];exact(below_size zq16):w.heap.size≤a5));have b1:=zqm ((by rw [hg];exact Nat.ne_of_lt (blk_lt (g:=a7) (o:= .cells #[.slice none 0 0,.slice none 0 0] 25 (0,0)) (zqe a2.out)):a7≠a5));have b7:=zqm ((by rw [hg];exact Nat.ne_of_gt (blk_lt (g:=a7) (o:= .cells #[.slice none 0 0,.slice none 0 0] 25 (0,0)) (zqe a2.out)):a5≠a7));clear a2 HB;have a2:=c2;have HB:=c4;clear c2 c4 hb hbox hg;have n7:=b7.out;have n8:=b1.out;have e7:w5.cell? ⟨a5,0,none⟩=some (.slice none 0 0):=(blk_cell a1.out 0).trans rfl;have e8:w5.cell? ⟨a5,1,none⟩=some (.slice none 0 0):=(blk_cell a1.out 1).trans rfl;have e9:=blk_frozen a1.out 0;have f0:=blk_frozen a1.out 1)|((with_reducible refine gate_callee (f:=30) rfl ?_);refine goesL_ (some 11) rfl rfl Try.func30 zqk rfl #[.int .i64 a0,.int .i64 0,.int .i64 3] rfl zq2 ?_;(with_reducible refine(spec_l1In.calls a0 0 3 true _ A2.out).mono ?_);rintro e w' ⟨rfl,⟨nd,rfl⟩⟩;refine⟨_,rfl,?_⟩))
  go_loopg [5] k (fun kq v5 w'=> ∃(a8:Int) (a6:List (List Int)) (a4:List Int) (b0:Value) (a3:Value),v5= .int .i64 a8∧Aside0 (spec_SetsOf.l0 kq a0 a8 a6 a4=some (r1,r2,r3))∧Aside0 (kq≤k)∧Aside0 (Kd.S (Kd.slice 3 (Kd.int .i64)) 23 w' w.heap.size (fun k_=>some k_≠(a3:Value).ownBlock) b0 a6)∧Aside0 (Kd.R (Kd.int .i64) 3 w' w.heap.size (fun _=>True) a3 a4)∧Aside0 (w'.heap[a7]? =some (.cells #[(.slice none 0 0),(.slice none 0 0)] 25 (0,0)))∧Aside0 (w'.heap[a5]? =some (.cells #[b0,a3] 25 (0,0)))∧Aside0 (Below w.heap.size w w'))
  case atStart=>exact⟨(0),(([]:List (List Int))),(([]:List Int)),(.slice none 0 0),(.slice none 0 0),zq7,H',⟨Nat.le_refl _⟩,⟨zq38⟩,⟨zq12⟩,⟨by refine zqe ?_;refine blk_far ?_ b1.out _;refine zqe ?_;refine blk_far ?_ b1.out _;refine zqe ?_;exact a2.out⟩,⟨by refine zqe ?_;refine blk_put (cs:= #[.slice none 0 0,.slice none 0 0]) ?_ 1 _ rfl;refine zqe ?_;refine blk_put (cs:= #[.slice none 0 0,.slice none 0 0]) ?_ 0 _ rfl;refine zqe ?_;exact a1.out⟩,⟨zq3⟩⟩
  case round=>
   clear H';(try clear c1);(try clear p2);(try clear c3);(try clear c6);(try clear e7);(try clear e8);(try clear e9);(try clear f0);obtain⟨a8,a6,a4,b0,a3,rfl,HA,d5,HO_103000,HO_103001,a2,a1,HB⟩:=hrel
   cases gk with
   |zero=>exact absurd HA.out (by simp [spec_SetsOf.l0])
   |succ k1=>
    have H:=HA.out;clear HA;simp only [spec_SetsOf.l0] at H
    by_cases c8:0≤a0
    ·rw [if_pos c8] at H;have i9:=eq_true c8;have j0:decide (0≤a0)=true:=decide_eq_true c8;clear c8;obtain⟨c5,d0⟩: ∃j_:Int,(shl .i64 1 a0)=j_:=⟨_,rfl⟩;(replace H:(if a8<(c5) then(spec_SetsOf.l1 k1 a0 a8 (([]:List Int)) 0 a6 a4) else(some (a6,a4,true)))=some (r1,r2,r3):=by first|(rw [d0] at H;exact H)|(simp only [d0] at H ⊢;exact H));have g3:(IntKind.i64.wrap (1*2 ^ min a0.toNat 64))=c5:=d0;have hji9z:a0≤64→(IntKind.i64.wrap (1*2 ^ a0.toNat))=c5:=shl_small d0;(have hji9u:(IntKind.i64.wrap (2 ^ min a0.toNat 64))=c5:=by have h_:=g3;rw [Int.one_mul] at h_;exact h_);(have hji9v:a0≤64→(IntKind.i64.wrap (2 ^ a0.toNat))=c5:=fun hle_=>by have h_:=hji9z hle_;rw [Int.one_mul] at h_;exact h_);have hji9y:(wrap64 (1*2 ^ min a0.toNat 64))=c5:=(i64_w _).symm.trans g3;have hji9x:a0≤64→(wrap64 (1*2 ^ a0.toNat))=c5:=fun h_=>(i64_w _).symm.trans (hji9z h_)
     by_cases d2:a8<(c5)
     ·rw [if_pos d2] at H;have f8:decide (a8<(c5))=true:=decide_eq_true d2;clear d2;obtain⟨h1,e0⟩: ∃y_:List Int,y_=(([]:List Int)):=⟨_,rfl⟩;replace H:(spec_SetsOf.l1 k1 a0 a8 h1 0 a6 a4)=some (r1,r2,r3):=zqy e0 H;have f7:=zqm e0;clear e0;have H':=zqm H;clear H
      go_wp2_with (first|((with_reducible refine gate_dst (N:=20) rfl ?_);refine Kd.R_lit (Kd.int .i64) _ 3 ?hg (N:=20) ?hd (xs:=([]:List Int)) (inner:= []) (ok:=fun _=>True) (okp:=fun _=>True) ?hr ?hp (fun _ hk=>hk) trivial (Below.refl _ _) (Nat.le_refl _) (by simp) ?_;(case hd=>rfl);(case hg=>rfl);(case hr=> exact zq6);(case hp=>exact(Reps.none _ _));intro n9 o4 c7 hb hg_ hnew_;clear hg_ hnew_;(first|rw [← f7.out] at c7|(simp only [Int.reduceToNat] at c7;rw [← f7.out] at c7));replace HO_103000:=zqm (Kd.S_elder' (zqfS HO_103000.out) (Kd.R_base c7) hb);have c4:=zqm (Kd.R_elder' (zqfR HO_103001.out) (Kd.R_base c7) hb);have h6:=zqm (Kd.R_lower (Kd.R_new' c7 (Kd.R_lt (zqfR HO_103001.out))) (below_size zq3));replace a2:=zqm (blk_below (g:=a7) (o:= .cells #[.slice none 0 0,.slice none 0 0] 25 (0,0)) (zqe a2.out) hb);replace a1:=zqm (blk_below (g:=a5) (o:= .cells #[b0,a3] 25 (0,0)) (zqe a1.out) hb);replace HB:=zqm (below_step zq3 hb);clear HO_103001;have HO_103001:=c4;clear c4 hb c7))
      go_loopg [6,7] k1 (fun kq v6 v7 w'=> ∃(b4:List Int) (b3:Int),v7= .int .i64 b3∧Aside0 (spec_SetsOf.l1 kq a0 a8 b4 b3 a6 a4=some (r1,r2,r3))∧Aside0 (kq≤k1)∧Aside0 (Kd.R (Kd.int .i64) 3 w' w.heap.size (fun k_=>some k_≠(a3:Value).ownBlock) v6 b4)∧Aside0 (Kd.S (Kd.slice 3 (Kd.int .i64)) 23 w' w.heap.size (fun k_=>some k_≠(v6:Value).ownBlock∧some k_≠(a3:Value).ownBlock) b0 a6)∧Aside0 (Kd.R (Kd.int .i64) 3 w' w.heap.size (fun k_=>some k_≠(v6:Value).ownBlock) a3 a4)∧Aside0 (w'.heap[a7]? =some (.cells #[(.slice none 0 0),(.slice none 0 0)] 25 (0,0)))∧Aside0 (w'.heap[a5]? =some (.cells #[b0,a3] 25 (0,0)))∧Aside0 (Below w.heap.size w w'))
      case atStart=>exact⟨(h1),(0),zq7,H',⟨Nat.le_refl _⟩,⟨by refine zqfR ?_;exact Kd.R_mono h6.out (fun _ hk=>hk.2)⟩,⟨zq55⟩,⟨zq73⟩,⟨zqe a2.out⟩,⟨zqe a1.out⟩,⟨zq3⟩⟩
      case round=>
       clear H';(try clear c1);(try clear p2);(try clear c3);(try clear c6);(try clear p6);(try clear c8);(try clear i9);(try clear j0);(try clear d2);(try clear f8);(try clear e7);(try clear e8);(try clear e9);(try clear f0);(try clear p2);obtain⟨b4,b3,rfl,HA,d6,HO_6,HO_103000,HO_103001,a2,a1,HB⟩:=hrel
       cases gk with
       |zero=>exact absurd HA.out (by simp [spec_SetsOf.l1])
       |succ k2=>
        have H:=HA.out;clear HA;simp only [spec_SetsOf.l1] at H
        by_cases e6:0≤a0
        ·rw [if_pos e6] at H;have m8:=eq_true e6;have m9:decide (0≤a0)=true:=decide_eq_true e6;clear e6;obtain⟨b6,c9⟩: ∃j_:Int,(shl .i64 1 a0)=j_:=⟨_,rfl⟩;(first|(obtain rfl:b6=c5:=c9.symm.trans d0)|skip);(replace H:(if b3<(b6) then(if(Go.bits .and .i64 a8 b3)=a8 then(if b4.length<17592186044416 then(spec_SetsOf.l1 k2 a0 a8 (b4 ++ [1]) (wrap64 (b3+1)) a6 a4) else(none)) else(if b4.length<17592186044416 then(spec_SetsOf.l1 k2 a0 a8 (b4 ++ [0]) (wrap64 (b3+1)) a6 a4) else(none))) else(if a6.length<5864062014805 then(if a4.length<17592186044416 then(spec_SetsOf.l0 k2 a0 (wrap64 (a8+1)) (a6 ++ [b4]) (a4 ++ [wrap64 ((wrap64 ((b6) - 1)) - a8)])) else(none)) else(none)))=some (r1,r2,r3):=by first|(rw [c9] at H;exact H)|(simp only [c9] at H ⊢;exact H));have f1:(IntKind.i64.wrap (1*2 ^ min a0.toNat 64))=b6:=c9;have hji14z:a0≤64→(IntKind.i64.wrap (1*2 ^ a0.toNat))=b6:=shl_small c9;(have hji14u:(IntKind.i64.wrap (2 ^ min a0.toNat 64))=b6:=by have h_:=f1;rw [Int.one_mul] at h_;exact h_);(have hji14v:a0≤64→(IntKind.i64.wrap (2 ^ a0.toNat))=b6:=fun hle_=>by have h_:=hji14z hle_;rw [Int.one_mul] at h_;exact h_);have hji14y:(wrap64 (1*2 ^ min a0.toNat 64))=b6:=(i64_w _).symm.trans f1;have hji14x:a0≤64→(wrap64 (1*2 ^ a0.toNat))=b6:=fun h_=>(i64_w _).symm.trans (hji14z h_)
         by_cases d7:b3<(b6)
         ·rw [if_pos d7] at H;have i3:decide (b3<(b6))=true:=decide_eq_true d7;clear d7
          by_cases d3:(Go.bits .and .i64 a8 b3)=a8
          ·rw [if_pos d3] at H;have i4:((Go.bits .and .i64 a8 b3)==a8)=true:=beq_iff_eq.mpr d3;have i5:((Go.bits .and .i64 a8 b3) !=a8)=false:=bne_eq_false_iff_eq.mpr d3;clear d3
           by_cases f9:b4.length<17592186044416
           ·rw [if_pos f9] at H;have LMc17:=zqm f9;clear f9;obtain⟨h2,e1⟩: ∃y_:List Int,y_=(b4 ++ [1]):=⟨_,rfl⟩;replace H:(spec_SetsOf.l1 k2 a0 a8 h2 (wrap64 (b3+1)) a6 a4)=some (r1,r2,r3):=zqy e1 H;have h9:=zqm e1;clear e1;have H':=zqm H;clear H
            go_wp2_with (first|((with_reducible refine gate_builtin (b:= .append) (xs:= #[.tmp 32,.tmp 34]) rfl ?_);at_builtin;refine Kd.R_append (Kd.int .i64) (w0:=w) w.heap.size rfl (.tmp 32) (.tmp 34) 23 3 (.int .i64 0) 8 rfl Try.underlying23 info3 rfl (by decide) (by omega) u6 b4 1 [.int .i64 1] (fun k_=>some k_≠(a3:Value).ownBlock) (fun _=>False) rfl rfl ?aP (fun _ hk=>hk.elim) ?aF ?aO ?aB ?aS ?aL ?_;(case aP=>exact rfl);(case aB=> exact zq26);(case aF=> exact zq70);(case aO=>exact(zqfR HO_6.out));(case aS=> exact zq25);(case aL=>have:=LMc17.out;omega);intro o0 o5 ho hb hg hat;rw [← h9.out] at ho;replace HO_103000:=zqm (Kd.S_after (ok:=(fun k_=>some k_≠(a3:Value).ownBlock)) zq55 hg hat);replace HO_103001:=zqm (Kd.R_after (ok:=(fun _=>True)) zq79 hg hat);replace a2:=zqm (blk_grown (g:=a7) (o:= .cells #[.slice none 0 0,.slice none 0 0] 25 (0,0)) (zqe a2.out) hg (Kd.R_ne HO_6.out a2.out (by decide)));replace a1:=zqm (blk_grown (g:=a5) (o:= .cells #[b0,a3] 25 (0,0)) (zqe a1.out) hg (Kd.R_ne HO_6.out a1.out (by decide)));replace HB:=zqm (hb);have h7:=zqm (ho);clear HO_6;clear ho hb hg hat))
            go_roundg k2
            (case measure=> exact zq71);case rel=>exact⟨(h2),(wrap64 (b3+1)),zq7,H',⟨zq71⟩,⟨zqfR h7.out⟩,⟨zq55⟩,⟨zq73⟩,⟨zqe a2.out⟩,⟨zqe a1.out⟩,⟨zq3⟩⟩
           ·rw [if_neg f9] at H;exact absurd H (by simp)
          ·rw [if_neg d3] at H;have i4:((Go.bits .and .i64 a8 b3)==a8)=false:=beq_eq_false_iff_ne.mpr d3;have i5:((Go.bits .and .i64 a8 b3) !=a8)=true:=bne_iff_ne.mpr d3
           by_cases g0:b4.length<17592186044416
           ·rw [if_pos g0] at H;have LMc19:=zqm g0;clear g0;obtain⟨h3,e2⟩: ∃y_:List Int,y_=(b4 ++ [0]):=⟨_,rfl⟩;replace H:(spec_SetsOf.l1 k2 a0 a8 h3 (wrap64 (b3+1)) a6 a4)=some (r1,r2,r3):=zqy e2 H;have i0:=zqm e2;clear e2;have H':=zqm H;clear H
            go_wp2_with (first|((with_reducible refine gate_builtin (b:= .append) (xs:= #[.tmp 32,.tmp 34]) rfl ?_);at_builtin;refine Kd.R_append (Kd.int .i64) (w0:=w) w.heap.size rfl (.tmp 32) (.tmp 34) 23 3 (.int .i64 0) 8 rfl Try.underlying23 info3 rfl (by decide) (by omega) u6 b4 0 [.int .i64 0] (fun k_=>some k_≠(a3:Value).ownBlock) (fun _=>False) rfl rfl ?aP (fun _ hk=>hk.elim) ?aF ?aO ?aB ?aS ?aL ?_;(case aP=>exact rfl);(case aB=> exact zq26);(case aF=> exact zq70);(case aO=>exact(zqfR HO_6.out));(case aS=> exact zq25);(case aL=>have:=LMc19.out;omega);intro o1 o6 ho hb hg hat;rw [← i0.out] at ho;replace HO_103000:=zqm (Kd.S_after (ok:=(fun k_=>some k_≠(a3:Value).ownBlock)) zq55 hg hat);replace HO_103001:=zqm (Kd.R_after (ok:=(fun _=>True)) zq79 hg hat);replace a2:=zqm (blk_grown (g:=a7) (o:= .cells #[.slice none 0 0,.slice none 0 0] 25 (0,0)) (zqe a2.out) hg (Kd.R_ne HO_6.out a2.out (by decide)));replace a1:=zqm (blk_grown (g:=a5) (o:= .cells #[b0,a3] 25 (0,0)) (zqe a1.out) hg (Kd.R_ne HO_6.out a1.out (by decide)));replace HB:=zqm (hb);have h8:=zqm (ho);clear HO_6;clear ho hb hg hat))
            go_roundg k2
            (case measure=> exact zq71);case rel=>exact⟨(h3),(wrap64 (b3+1)),zq7,H',⟨zq71⟩,⟨zqfR h8.out⟩,⟨zq55⟩,⟨zq73⟩,⟨zqe a2.out⟩,⟨zqe a1.out⟩,⟨zq3⟩⟩
           ·rw [if_neg g0] at H;exact absurd H (by simp)
         ·rw [if_neg d7] at H;have i3:decide (b3<(b6))=false:=decide_eq_false d7;clear d7
          by_cases g1:a6.length<5864062014805
          ·rw [if_pos g1] at H;have LMc21:=zqm g1;clear g1;obtain⟨b5,e3⟩: ∃y_:List (List Int),y_=(a6 ++ [b4]):=⟨_,rfl⟩;replace H:(if a4.length<17592186044416 then(spec_SetsOf.l0 k2 a0 (wrap64 (a8+1)) b5 (a4 ++ [wrap64 ((wrap64 ((b6) - 1)) - a8)])) else(none))=some (r1,r2,r3):=zqy e3 H;have i1:=zqm e3;clear e3;have n0:=eq_true (zqo:0≤a0)
           by_cases g2:a4.length<17592186044416
           ·rw [if_pos g2] at H;have LMc24:=zqm g2;clear g2;obtain⟨d4,e4⟩: ∃y_:List Int,y_=(a4 ++ [wrap64 ((wrap64 ((b6) - 1)) - a8)]):=⟨_,rfl⟩;replace H:(spec_SetsOf.l0 k2 a0 (wrap64 (a8+1)) b5 d4)=some (r1,r2,r3):=zqy e4 H;have i2:=zqm e4;clear e4;have H':=zqm H;clear H;have n1:=b7.out;have n4:=b1.out;have j5:wr.cell? ⟨a5,0,none⟩=some (b0):=(blk_cell a1.out 0).trans rfl;have j6:wr.cell? ⟨a5,1,none⟩=some (a3):=(blk_cell a1.out 1).trans rfl;have k9:=blk_frozen a1.out 0;have l2:=blk_frozen a1.out 1;obtain⟨g5,g6,j1⟩:=Kd.R_slice HO_6.out;subst j1;(try go_wp2_with (first|((with_reducible refine gate_builtin (b:= .append) (xs:= #[.tmp 37,.tmp 39]) rfl ?_);at_builtin;refine Kd.S_append (Kd.slice 3 (Kd.int .i64)) (w0:=w) w.heap.size rfl (.tmp 37) (.tmp 39) 22 23 (.slice none 0 0) 24 rfl Try.underlying22 info23 rfl (by decide) (by omega) b0 a6 b4 [.slice g5 b4.length g6] (fun k_=>some k_≠(a3:Value).ownBlock) (fun k_=>some k_=(.slice g5 b4.length g6:Value).ownBlock) rfl rfl ?aP (fun k_ hk_=>((Kd.R_mono (ok':=fun k_=>((fun k_=>some k_≠(a3:Value).ownBlock)) k_∧some k_≠(b0:Value).ownBlock) (Kd.R_apart' (HO_6.out) (Kd.S_typed HO_103000.out) (by decide)) (fun k_ hk=>⟨hk.1,hk.2⟩))).1 k_ hk_.symm) ?aF ?aO ?aB ?aS ?aL ?_;(case aP=>exact Kd.M_row (Kd.R_mono (Kd.R_tight rfl (Kd.R_mono (ok':=fun k_=>((fun k_=>some k_≠(a3:Value).ownBlock)) k_∧some k_≠(b0:Value).ownBlock) (Kd.R_apart' (HO_6.out) (Kd.S_typed HO_103000.out) (by decide)) (fun k_ hk=>⟨hk.1,hk.2⟩))) (fun _ h_=>h_)));(case aB=> exact zq26);(case aF=> exact zq70);(case aO=>exact(by refine zqfS ?_;exact Kd.S_mono HO_103000.out (fun k_ hk=>⟨hk.2,fun e_=>hk.1 e_⟩)));(case aS=> exact zq25);(case aL=>have:=LMc21.out;omega);intro o2 d1 ho hb hg hat;rw [← i1.out] at ho;replace HO_103001:=zqm (Kd.R_over' (zqfR HO_103001.out) (Kd.S_typed (zqfS HO_103000.out)) (by decide) hg);replace a2:=zqm (blk_grown (g:=a7) (o:= .cells #[.slice none 0 0,.slice none 0 0] 25 (0,0)) (zqe a2.out) hg (Kd.S_ne HO_103000.out a2.out (by decide)));replace a1:=zqm (blk_grown (g:=a5) (o:= .cells #[b0,a3] 25 (0,0)) (zqe a1.out) hg (Kd.S_ne HO_103000.out a1.out (by decide)));replace HB:=zqm (hb);have c0:=zqm (ho);clear HO_103000 HO_6;clear ho hb hg hat;obtain⟨b8,b9,j2⟩:=Kd.S_slice c0.out;subst j2;have j7:d1.cell? ⟨a5,0,none⟩=some (b0):=(blk_cell a1.out 0).trans rfl;have j8:d1.cell? ⟨a5,1,none⟩=some (a3):=(blk_cell a1.out 1).trans rfl;have l3:=blk_frozen a1.out 0;have l4:=blk_frozen a1.out 1)));have c2:Aside0 (Kd.R (Kd.int .i64) 3 (d1.setCell ⟨a5,0,none⟩ (.slice b8 b5.length b9)) w.heap.size (fun _=>True) a3 a4):=⟨by refine zqfR ?_;exact Kd.R_mono (Kd.R_far (p:=⟨a5,0,none⟩) (Kd.R_types HO_103001.out a1.out (by decide)) (fun _ hk=>hk.2) (.slice b8 b5.length b9)) (fun _ hk=>trivial)⟩;have c4:Aside0 (Kd.S (Kd.slice 3 (Kd.int .i64)) 23 (d1.setCell ⟨a5,0,none⟩ (.slice b8 b5.length b9)) w.heap.size (fun k_=>some k_≠(a3:Value).ownBlock) (.slice b8 b5.length b9) b5):=⟨by refine zqfS ?_;exact Kd.S_mono (Kd.S_far (p:=⟨a5,0,none⟩) (Kd.S_types c0.out a1.out (by decide)) (fun _ hk=>hk.2) (.slice b8 b5.length b9)) (fun _ hk=>hk.1)⟩;have g8:Aside0 ((d1.setCell ⟨a5,0,none⟩ (.slice b8 b5.length b9)).heap[a7]? =some (.cells #[.slice none 0 0,.slice none 0 0] 25 (0,0))):=⟨zq80⟩;have g9:Aside0 ((d1.setCell ⟨a5,0,none⟩ (.slice b8 b5.length b9)).heap[a5]? =some (.cells #[.slice b8 b5.length b9,a3] 25 (0,0))):=⟨by refine zqe ?_;refine blk_put (cs:= #[b0,a3]) ?_ 0 _ rfl;refine zqe ?_;exact a1.out⟩;have h0:Aside0 (Below w.heap.size w (d1.setCell ⟨a5,0,none⟩ (.slice b8 b5.length b9))):=⟨zq3⟩;(try clear HO_103001);(try clear c0);(try clear a2);(try clear a1);(try clear HB);generalize (d1.setCell ⟨a5,0,none⟩ (.slice b8 b5.length b9))=m6 at c2 c4 g8 g9 h0 ⊢;have HO_103001:=c2;have c0:=c4;have a2:=g8;have a1:=g9;have HB:=h0;clear c2 c4 g8 g9 h0;replace HO_103001:=zqm (Kd.R_drew HO_103001.out);replace c0:=zqm (Kd.S_drew c0.out);replace a2:=zqm (blk_drew a2.out);replace a1:=zqm (blk_drew a1.out);replace HB:=zqm (below_drew1 HB.out);refine start_ (n:=11) (S:=fun w'=>w'.cell? ⟨a5,0,none⟩=some (.slice b8 b5.length b9)∧w'.cell? ⟨a5,1,none⟩=some (a3)) (ds:= [10]) (zqb 11 0) zqk rfl rfl ⟨(blk_cell a1.out 0).trans rfl,(blk_cell a1.out 1).trans rfl⟩ (fun hHeld=>?_);refine with_tabW spec_SetsOf.tab16 spec_SetsOf.bits16 (fun HT_ HW_=>?_);generalize m6.drew=o7 at HO_103001 c0 a2 a1 HB hHeld ⊢;refine zqp 0 42 (zqb 11 1) HT_ ?_
            refine zqp 2 44 (zqb 11 5) HT_ ?_;refine zqp 3 45 (zqb 11 13) HT_ ?_;refine zqp 4 46 (zqb 11 29) HT_ ?_;refine zqp 5 47 (zqb 11 61) HT_ ?_;refine zqp 6 48 (zqb 11 125) HT_ ?_;refine zqw 1 43 (zqb 11 127) HT_ HW_ hHeld ?_;refine one_ (i:=7) (N:=some 49) (zqb 11 255) rfl rfl (one_of HT_.out zqk) (by decide) (fun K hK=>?_);refine value_ (w1:=?_) (v:=?_) (by rfl) rfl ?_ ?_;rotate_left 2
            ·go_simp
             constructor
             ·rfl
             ·rfl
            refine hK.out _ _ ⟨(blk_cell (blk_alloc a1.out _) 0).trans rfl,(blk_cell (blk_alloc a1.out _) 1).trans rfl⟩ (fun hHeld=>?_);clear hK K;refine norm_ (a':=?_) ?_ ?_;rotate_left
            ·show Act.put _ (some 49) _=_;exact zqs
            refine one_ (i:=8) (N:=some 50) (zqb 11 511) rfl rfl (one_of HT_.out zqk) (by decide) (fun K hK=>?_);refine Kd.R_append_step (Kd.int .i64) (w0:=w) w.heap.size (by rfl) (.tmp 43) (.tmp 49) 23 3 (.int .i64 0) 8 rfl Try.underlying23 info3 rfl (by decide) (by omega) a3 a4 (wrap64 ((wrap64 ((b6) - 1)) - a8)) [.int .i64 (wrap64 ((wrap64 ((b6) - 1)) - a8))] (fun _=>True) (fun _=>False) rfl rfl ?aP (fun _ hk=>hk.elim) ?aF ?aO ?aB ?aS ?aL ?_;(case aP=>exact rfl);(case aB=> exact zq26);(case aF=>exact(fun _ _=>trivial));(case aO=>exact(zqfR HO_103001.out));(case aS=> exact zq25);(case aL=>have:=LMc24.out;omega);intro o3 m7 ho hb hg hat;rw [← i2.out] at ho;replace a2:=zqm (blk_grown (g:=a7) (o:= .cells #[.slice none 0 0,.slice none 0 0] 25 (0,0)) (zqe a2.out) hg (Kd.R_ne HO_103001.out a2.out (by decide)));replace a1:=zqm (blk_grown (g:=a5) (o:= .cells #[.slice b8 b5.length b9,a3] 25 (0,0)) (zqe a1.out) hg (Kd.R_ne HO_103001.out a1.out (by decide)));replace c0:=zqm (Kd.S_after (ok:=(fun _=>True)) (by refine zqfS ?_;exact Kd.S_mono c0.out (fun _ hk=>⟨trivial,hk⟩)) hg hat);replace HB:=zqm (hb);have f6:=zqm (ho);clear HO_103001;clear ho hb hg hat;obtain⟨f2,f4,g7⟩:=Kd.R_slice f6.out;(first|subst g7|(injection g7 with i7 m3 i8;have m4:=i7.symm;have m5:=i8.symm;clear i7 m3 i8;subst m4;subst m5));refine hK.out _ _ ⟨(blk_cell a1.out 0).trans rfl,(blk_cell a1.out 1).trans rfl⟩ (fun hHeld=>?_);clear hK K;refine norm_ (a':=?_) ?_ ?_;rotate_left
            ·show Act.put _ (some 50) _=_;exact zqs
            refine zqp 9 51 (zqb 11 1023) HT_ ?_;refine last_ (i:=10) (N:=none) (zqb 11 2047) rfl rfl (one_of HT_.out zqk) (by decide) (fun K hK=>?_);have hs35:m7.cell? ⟨a5,1,none⟩=some (a3):=(blk_cell a1.out 1).trans rfl;have hfs35:=blk_frozen a1.out 1;have hns35_0:=b1.out;have hms35_0:=b7.out;refine skip_ (w1:=?_) (by rfl) rfl ?_ ?_;rotate_left
            ·go_simp;rfl
            refine hK.out _ _ ?_;clear hK K;refine done_ (done_of HT_.out zqk) ?_;try go_wp2
            go_roundg k2
            (case measure=> exact zq71);case rel=>exact⟨(wrap64 (a8+1)),(b5),(d4),(.slice b8 b5.length b9),(.slice f2 d4.length f4),zq7,H',⟨zq71⟩,⟨by refine zqfS ?_;exact Kd.S_mono (Kd.S_far (p:=⟨a5,1,none⟩) (Kd.S_types c0.out a1.out (by decide)) (fun _ hk=>hk.2) (.slice f2 d4.length f4)) (fun _ hk=>hk.1.2)⟩,⟨by refine zqfR ?_;exact Kd.R_mono (Kd.R_far (p:=⟨a5,1,none⟩) (Kd.R_types f6.out a1.out (by decide)) (fun _ hk=>hk.2) (.slice f2 d4.length f4)) (fun _ hk=>trivial)⟩,⟨zq80⟩,⟨by refine zqe ?_;refine blk_put (cs:= #[.slice b8 b5.length b9,a3]) ?_ 1 _ rfl;refine zqe ?_;exact a1.out⟩,⟨zq3⟩⟩
           ·rw [if_neg g2] at H;exact absurd H (by simp)
          ·rw [if_neg g1] at H;exact absurd H (by simp)
        ·rw [if_neg e6] at H;exact absurd H (by simp)
     ·rw [if_neg d2] at H;have f8:decide (a8<(c5))=false:=decide_eq_false d2;clear d2;simp only [Option.some.injEq,Prod.mk.injEq] at H;obtain⟨rfl,rfl,rfl⟩:=H;have n2:=b7.out;have n5:=b1.out;have j9:wr.cell? ⟨a5,0,none⟩=some (b0):=(blk_cell a1.out 0).trans rfl;have k0:wr.cell? ⟨a5,1,none⟩=some (a3):=(blk_cell a1.out 1).trans rfl;have l5:=blk_frozen a1.out 0;have l6:=blk_frozen a1.out 1;obtain⟨d8,d9,j3⟩:=Kd.S_slice HO_103000.out;subst j3;have k3:wr.cell? ⟨a7,0,none⟩=some (.slice none 0 0):=(blk_cell a2.out 0).trans rfl;have k4:wr.cell? ⟨a7,1,none⟩=some (.slice none 0 0):=(blk_cell a2.out 1).trans rfl;have l7:=blk_frozen a2.out 0;have l8:=blk_frozen a2.out 1;obtain⟨f3,f5,j4⟩:=Kd.R_slice HO_103001.out;subst j4
      go_wp2
      refine bodyPost_ret (results_ct rfl _ _ a7 25 #[.slice d8 a6.length d9,.slice f3 a4.length f5] (0,0) _ rfl (by refine zqe ?_;refine blk_put (cs:= #[.slice d8 a6.length d9,.slice none 0 0]) ?_ 1 _ rfl;refine zqe ?_;refine blk_put (cs:= #[.slice none 0 0,.slice none 0 0]) ?_ 0 _ rfl;refine zqe ?_;exact a2.out) Try.underlying25 rfl zqk) rfl ?_;exact⟨_,_,by first|rfl|(simp [errW_none,errW_some] <;> rfl)|(simp only [← d0];first|rfl|(simp [errW_none,errW_some] <;> rfl))|(simp [*,errW_none,errW_some] <;> rfl),by refine zqfS ?_;exact Kd.S_mono (Kd.S_far (p:=⟨a7,1,none⟩) (Kd.S_far (p:=⟨a7,0,none⟩) (Kd.S_types HO_103000.out a2.out (by decide)) (fun _ hk=>hk.2) (.slice d8 a6.length d9)) (fun _ hk=>hk.2) (.slice f3 a4.length f5)) (fun _ hk=>hk.1),by refine zqfR ?_;exact Kd.R_mono (Kd.R_far (p:=⟨a7,1,none⟩) (Kd.R_far (p:=⟨a7,0,none⟩) (Kd.R_types HO_103001.out a2.out (by decide)) (fun _ hk=>hk.2) (.slice d8 a6.length d9)) (fun _ hk=>hk.2) (.slice f3 a4.length f5)) (fun _ hk=>trivial),zq3⟩
    ·rw [if_neg c8] at H;exact absurd H (by simp)
 ·replace c3:=Bool.eq_false_iff.mpr c3;subst c3;(have H1:(some (([]:List (List Int)),([]:List Int),false))=some (r1,r2,r3):=by rw [if_neg (show¬(false=true) by decide)] at H;exact H);clear H;have H:=H1;clear H1;simp only [Option.some.injEq,Prod.mk.injEq] at H;obtain⟨rfl,rfl,rfl⟩:=H
  go_enter Try.func14,Try.ntmps14
  go_wp2_with (first|((with_reducible refine gate_dst (N:=2) rfl ?_);refine box_event ?hg (N:=2) ?hd (cs:= #[.slice none 0 0,.slice none 0 0]) (t:=25) ?hr ?_;(case hd=>rfl);(case hg=>rfl);(case hr=> exact zq6);intro a7 hg o8 hbox hb;have c2:=zqm (below_step zq0 hb);have a2:=zqm (hbox);have h4:=zqm ((by rw [hg];exact(below_size zq0):w.heap.size≤a7));have a9:=zqm ((by rw [hg];exact(below_size zq0):w.heap.size≤a7));clear HB;have HB:=c2;clear c2 hb hbox hg)|((with_reducible refine gate_dst (N:=4) rfl ?_);refine box_event ?hg (N:=4) ?hd (cs:= #[.slice none 0 0,.slice none 0 0]) (t:=25) ?hr ?_;(case hd=>rfl);(case hg=>rfl);(case hr=> exact zq6);intro a5 hg g4 hbox hb;have c2:=zqm (blk_below (g:=a7) (o:= .cells #[.slice none 0 0,.slice none 0 0] 25 (0,0)) (zqe a2.out) hb);have c4:=zqm (below_step zq16 hb);have a1:=zqm (hbox);have h5:=zqm ((by rw [hg];exact(below_size zq16):w.heap.size≤a5));have b2:=zqm ((by rw [hg];exact(below_size zq16):w.heap.size≤a5));have b1:=zqm ((by rw [hg];exact Nat.ne_of_lt (blk_lt (g:=a7) (o:= .cells #[.slice none 0 0,.slice none 0 0] 25 (0,0)) (zqe a2.out)):a7≠a5));have b7:=zqm ((by rw [hg];exact Nat.ne_of_gt (blk_lt (g:=a7) (o:= .cells #[.slice none 0 0,.slice none 0 0] 25 (0,0)) (zqe a2.out)):a5≠a7));clear a2 HB;have a2:=c2;have HB:=c4;clear c2 c4 hb hbox hg;have n3:=b7.out;have n6:=b1.out;have k5:g4.cell? ⟨a5,0,none⟩=some (.slice none 0 0):=(blk_cell a1.out 0).trans rfl;have k6:g4.cell? ⟨a5,1,none⟩=some (.slice none 0 0):=(blk_cell a1.out 1).trans rfl;have l9:=blk_frozen a1.out 0;have m0:=blk_frozen a1.out 1)|((with_reducible refine gate_callee (f:=30) rfl ?_);refine goesL_ (some 11) rfl rfl Try.func30 zqk rfl #[.int .i64 a0,.int .i64 0,.int .i64 3] rfl zq2 ?_;(with_reducible refine(spec_l1In.calls a0 0 3 false _ A2.out).mono ?_);rintro e w' ⟨rfl,⟨nd,rfl⟩⟩;refine⟨_,rfl,?_⟩;have k7:g4.cell? ⟨a7,0,none⟩=some (.slice none 0 0):=(blk_cell a2.out 0).trans rfl;have k8:g4.cell? ⟨a7,1,none⟩=some (.slice none 0 0):=(blk_cell a2.out 1).trans rfl;have m1:=blk_frozen a2.out 0;have m2:=blk_frozen a2.out 1))
  refine bodyPost_ret (results_ct rfl _ _ a7 25 #[.slice none 0 0,.slice none 0 0] (0,0) _ rfl (by refine zqe ?_;refine blk_put (cs:= #[.slice none 0 0,.slice none 0 0]) ?_ 1 _ rfl;refine zqe ?_;refine blk_put (cs:= #[.slice none 0 0,.slice none 0 0]) ?_ 0 _ rfl;refine zqe ?_;refine blk_far ?_ b1.out _;refine zqe ?_;refine blk_far ?_ b1.out _;refine zqe ?_;exact a2.out) Try.underlying25 rfl zqk) rfl ?_;exact⟨_,_,zq5,zq38,zq12,zq3⟩
end
section
attribute [local go_sem] max2_int min2_int max_two min_two max_three min_three max_four min_four
def spec_DeskNew.f (k : Nat) (a0 : Int) : Option ((List (List Int)) × List Int × (List (S25)) × Bool) := (spec_SetsOf.f k a0).bind fun bt120 => (if bt120.2.2 = true then (some (bt120.1, bt120.2.1, ([] : List (S25)), true)) else (some (([] : List (List Int)), ([] : List Int), ([] : List (S25)), false)))
set_option maxHeartbeats 8000000 in
set_option maxRecDepth 100000 in
theorem spec_DeskNew.calls (k : Nat) (a0 : Int) (r1 : List (List Int)) (r2 : List Int) (r3 : List (S25)) (r4 : Bool) (w : World) (h : spec_DeskNew.f k a0 = some (r1, r2, r3, r4)) :
  Calls Try.prog 5 #[.int .i64 a0] w fun e w' => ∃ v0_ v1_ v2_ : Value, e = .returned (.tuple #[.agg #[v0_, v1_, v2_], .bool r4]) ∧ Kd.S (Kd.slice 3 (Kd.int .i64)) 23 w' w.heap.size (fun k_ => some k_ ≠ (v1_ : Value).ownBlock) v0_ r1 ∧ Kd.R (Kd.int .i64) 3 w' w.heap.size (fun _ => True) v1_ r2 ∧ Kd.R k25 25 w' w.heap.size (fun k_ => some k_ ≠ (v0_ : Value).ownBlock ∧ some k_ ≠ (v1_ : Value).ownBlock) v2_ r3 ∧ Below w.heap.size w w' := by
 have hu28:=Try.underlying28;have hu25:=Try.underlying25;have HB:=zqm (Below.refl w.heap.size w);have H:((spec_SetsOf.f k a0).bind fun b7=>(if b7.2.2=true then(some (b7.1,b7.2.1,([]:List (S25)),true)) else(some (([]:List (List Int)),([]:List Int),([]:List (S25)),false))))=some (r1,r2,r3,r4):=h;clear h;replace H:=Option.bind_eq_some_iff.mp H;obtain⟨⟨a7,b0,c5⟩,c8,H⟩:=H;replace H:(if c5=true then(some (a7,b0,([]:List (S25)),true)) else(some (([]:List (List Int)),([]:List Int),([]:List (S25)),false)))=some (r1,r2,r3,r4):=H;have A2:=zqm c8;clear c8
 by_cases c3:c5=true
 ·subst c3;(have H1:(some (a7,b0,([]:List (S25)),true))=some (r1,r2,r3,r4):=by rw [if_pos rfl] at H;exact H);clear H;have H:=H1;clear H1;simp only [Option.some.injEq,Prod.mk.injEq] at H;obtain⟨rfl,rfl,rfl,rfl⟩:=H
  go_enter Try.func5,Try.ntmps5
  go_wp2_with (first|((with_reducible refine gate_dst (N:=2) rfl ?_);refine box_event ?hg (N:=2) ?hd (cs:= #[.slice none 0 0,.slice none 0 0,.slice none 0 0]) (t:=28) ?hr ?_;(case hd=>rfl);(case hg=>rfl);(case hr=> exact zq6);intro a2 hg w4 hbox hb;have c0:=zqm (below_step zq0 hb);have a1:=zqm (hbox);have c6:=zqm ((by rw [hg];exact(below_size zq0):w.heap.size≤a2));have a4:=zqm ((by rw [hg];exact(below_size zq0):w.heap.size≤a2));clear HB;have HB:=c0;clear c0 hb hbox hg)|((with_reducible refine gate_callee (f:=14) rfl ?_);refine goesL_ (some 8) rfl rfl Try.func14 zqk rfl #[.int .i64 a0] rfl zq2 ?_;(with_reducible refine(spec_SetsOf.calls k a0 a7 b0 true _ A2.out).mono ?_);rintro e w5 ⟨d2,d3,rfl,b8,b9,hb⟩;refine⟨_,rfl,?_⟩;have a8:=zqm (Kd.S_lower b8 (below_size zq1));have a9:=zqm (Kd.R_lower b9 (below_size zq1));replace a1:=zqm (blk_below (g:=a2) (o:= .cells #[.slice none 0 0,.slice none 0 0,.slice none 0 0] 28 (0,0)) (zqe a1.out) hb);replace HB:=zqm (below_step zq1 hb);clear hb b8 b9)|((with_reducible refine gate_dst (N:=4) rfl ?_);refine box_event ?hg (N:=4) ?hd (cs:= #[.slice none 0 0,.slice none 0 0]) (t:=25) ?hr ?_;(case hd=>rfl);(case hg=>rfl);(case hr=> exact zq6);intro a3 hg w6 hbox hb;replace a8:=zqm (Kd.S_below (zqfS a8.out) hb);replace a9:=zqm (Kd.R_below (zqfR a9.out) hb);have c1:=zqm (blk_below (g:=a2) (o:= .cells #[.slice none 0 0,.slice none 0 0,.slice none 0 0] 28 (0,0)) (zqe a1.out) hb);have c2:=zqm (below_step zq1 hb);have a6:=zqm (hbox);have c7:=zqm ((by rw [hg];exact(below_size zq1):w.heap.size≤a3));have b6:=zqm ((by rw [hg];exact(below_size zq1):w.heap.size≤a3));have a5:=zqm ((by rw [hg];exact Nat.ne_of_lt (blk_lt (g:=a2) (o:= .cells #[.slice none 0 0,.slice none 0 0,.slice none 0 0] 28 (0,0)) (zqe a1.out)):a2≠a3));have b1:=zqm ((by rw [hg];exact Nat.ne_of_gt (blk_lt (g:=a2) (o:= .cells #[.slice none 0 0,.slice none 0 0,.slice none 0 0] 28 (0,0)) (zqe a1.out)):a3≠a2));clear a1 HB;have a1:=c1;have HB:=c2;clear c1 c2 hb hbox hg;obtain⟨b4,b5,f0⟩:=Kd.S_slice a8.out;subst f0;have g1:=b1.out;have g2:=a5.out;have f1:w6.cell? ⟨a3,0,none⟩=some (.slice none 0 0):=(blk_cell a6.out 0).trans rfl;have f2:w6.cell? ⟨a3,1,none⟩=some (.slice none 0 0):=(blk_cell a6.out 1).trans rfl;have f3:=blk_frozen a6.out 0;have f4:=blk_frozen a6.out 1;obtain⟨b2,b3,c9⟩:=Kd.R_slice a9.out;subst c9;have d4:w6.cell? ⟨a2,0,none⟩=some (.slice none 0 0):=(blk_cell a1.out 0).trans rfl;have d5:w6.cell? ⟨a2,1,none⟩=some (.slice none 0 0):=(blk_cell a1.out 1).trans rfl;have d6:w6.cell? ⟨a2,2,none⟩=some (.slice none 0 0):=(blk_cell a1.out 2).trans rfl;have e2:=blk_frozen a1.out 0;have e3:=blk_frozen a1.out 1;have e4:=blk_frozen a1.out 2))
  refine bodyPost_ret (results_ct rfl _ _ a2 28 #[.slice b4 a7.length b5,.slice b2 b0.length b3,.slice none 0 0] (0,0) _ rfl zq19 Try.underlying28 rfl zqk) rfl ?_;exact⟨_,_,_,zq5,zq14,zq13,zq12,zq27⟩
 ·replace c3:=Bool.eq_false_iff.mpr c3;subst c3;(have H1:(some (([]:List (List Int)),([]:List Int),([]:List (S25)),false))=some (r1,r2,r3,r4):=by rw [if_neg (show¬(false=true) by decide)] at H;exact H);clear H;have H:=H1;clear H1;simp only [Option.some.injEq,Prod.mk.injEq] at H;obtain⟨rfl,rfl,rfl,rfl⟩:=H
  go_enter Try.func5,Try.ntmps5
  go_wp2_with (first|((with_reducible refine gate_dst (N:=2) rfl ?_);refine box_event ?hg (N:=2) ?hd (cs:= #[.slice none 0 0,.slice none 0 0,.slice none 0 0]) (t:=28) ?hr ?_;(case hd=>rfl);(case hg=>rfl);(case hr=> exact zq6);intro a2 hg g3 hbox hb;have c0:=zqm (below_step zq0 hb);have a1:=zqm (hbox);have c6:=zqm ((by rw [hg];exact(below_size zq0):w.heap.size≤a2));have a4:=zqm ((by rw [hg];exact(below_size zq0):w.heap.size≤a2));clear HB;have HB:=c0;clear c0 hb hbox hg)|((with_reducible refine gate_callee (f:=14) rfl ?_);refine goesL_ (some 8) rfl rfl Try.func14 zqk rfl #[.int .i64 a0] rfl zq2 ?_;(with_reducible refine(spec_SetsOf.calls k a0 a7 b0 false _ A2.out).mono ?_);rintro e g4 ⟨d2,d3,rfl,b8,b9,hb⟩;refine⟨_,rfl,?_⟩;have a8:=zqm (Kd.S_lower b8 (below_size zq1));have a9:=zqm (Kd.R_lower b9 (below_size zq1));replace a1:=zqm (blk_below (g:=a2) (o:= .cells #[.slice none 0 0,.slice none 0 0,.slice none 0 0] 28 (0,0)) (zqe a1.out) hb);replace HB:=zqm (below_step zq1 hb);clear hb b8 b9)|((with_reducible refine gate_dst (N:=4) rfl ?_);refine box_event ?hg (N:=4) ?hd (cs:= #[.slice none 0 0,.slice none 0 0]) (t:=25) ?hr ?_;(case hd=>rfl);(case hg=>rfl);(case hr=> exact zq6);intro a3 hg c4 hbox hb;replace a8:=zqm (Kd.S_below (zqfS a8.out) hb);replace a9:=zqm (Kd.R_below (zqfR a9.out) hb);have c1:=zqm (blk_below (g:=a2) (o:= .cells #[.slice none 0 0,.slice none 0 0,.slice none 0 0] 28 (0,0)) (zqe a1.out) hb);have c2:=zqm (below_step zq1 hb);have a6:=zqm (hbox);have c7:=zqm ((by rw [hg];exact(below_size zq1):w.heap.size≤a3));have b6:=zqm ((by rw [hg];exact(below_size zq1):w.heap.size≤a3));have a5:=zqm ((by rw [hg];exact Nat.ne_of_lt (blk_lt (g:=a2) (o:= .cells #[.slice none 0 0,.slice none 0 0,.slice none 0 0] 28 (0,0)) (zqe a1.out)):a2≠a3));have b1:=zqm ((by rw [hg];exact Nat.ne_of_gt (blk_lt (g:=a2) (o:= .cells #[.slice none 0 0,.slice none 0 0,.slice none 0 0] 28 (0,0)) (zqe a1.out)):a3≠a2));clear a1 HB;have a1:=c1;have HB:=c2;clear c1 c2 hb hbox hg;obtain⟨f7,f9,d0⟩:=Kd.S_slice a8.out;subst d0;have f5:=b1.out;have f6:=a5.out;have d7:c4.cell? ⟨a3,0,none⟩=some (.slice none 0 0):=(blk_cell a6.out 0).trans rfl;have d8:c4.cell? ⟨a3,1,none⟩=some (.slice none 0 0):=(blk_cell a6.out 1).trans rfl;have e5:=blk_frozen a6.out 0;have e6:=blk_frozen a6.out 1;obtain⟨f8,g0,d1⟩:=Kd.R_slice a9.out;subst d1;have d9:c4.cell? ⟨a2,0,none⟩=some (.slice none 0 0):=(blk_cell a1.out 0).trans rfl;have e0:c4.cell? ⟨a2,1,none⟩=some (.slice none 0 0):=(blk_cell a1.out 1).trans rfl;have e1:c4.cell? ⟨a2,2,none⟩=some (.slice none 0 0):=(blk_cell a1.out 2).trans rfl;have e7:=blk_frozen a1.out 0;have e8:=blk_frozen a1.out 1;have e9:=blk_frozen a1.out 2))
  refine bodyPost_ret (results_ct rfl _ _ a2 28 #[.slice none 0 0,.slice none 0 0,.slice none 0 0] (0,0) _ rfl zq24 Try.underlying28 rfl zqk) rfl ?_;exact⟨_,_,_,zq5,zq38,zq12,zq12,zq27⟩
end
section
attribute [local go_sem] max2_int min2_int max_two min_two max_three min_three max_four min_four
def impl_DeskNew.f (a0 : Int) : Option ((List (List Int)) × List Int × (List (S25)) × Bool) := (impl_SetsOf.f a0).bind fun bt129 => (if bt129.2.2 = true then (some (bt129.1, bt129.2.1, ([] : List (S25)), true)) else (some (([] : List (List Int)), ([] : List Int), ([] : List (S25)), false)))
set_option maxHeartbeats 8000000 in
set_option maxRecDepth 100000 in
theorem impl_DeskNew.calls (a0 : Int) (r1 : List (List Int)) (r2 : List Int) (r3 : List (S25)) (r4 : Bool) (w : World) (h : impl_DeskNew.f a0 = some (r1, r2, r3, r4)) :
  Calls Try.prog 6 #[.int .i64 a0] w fun e w' => ∃ v0_ v1_ v2_ : Value, e = .returned (.tuple #[.agg #[v0_, v1_, v2_], .bool r4]) ∧ Kd.S (Kd.slice 3 (Kd.int .i64)) 23 w' w.heap.size (fun k_ => some k_ ≠ (v1_ : Value).ownBlock) v0_ r1 ∧ Kd.R (Kd.int .i64) 3 w' w.heap.size (fun _ => True) v1_ r2 ∧ Kd.R k25 25 w' w.heap.size (fun k_ => some k_ ≠ (v0_ : Value).ownBlock ∧ some k_ ≠ (v1_ : Value).ownBlock) v2_ r3 ∧ Below w.heap.size w w' := by
 have hu28:=Try.underlying28;have hu25:=Try.underlying25;have HB:=zqm (Below.refl w.heap.size w);have H:((impl_SetsOf.f a0).bind fun b7=>(if b7.2.2=true then(some (b7.1,b7.2.1,([]:List (S25)),true)) else(some (([]:List (List Int)),([]:List Int),([]:List (S25)),false))))=some (r1,r2,r3,r4):=h;clear h;replace H:=Option.bind_eq_some_iff.mp H;obtain⟨⟨a7,b0,c5⟩,c8,H⟩:=H;replace H:(if c5=true then(some (a7,b0,([]:List (S25)),true)) else(some (([]:List (List Int)),([]:List Int),([]:List (S25)),false)))=some (r1,r2,r3,r4):=H;have A2:=zqm c8;clear c8
 by_cases c3:c5=true
 ·subst c3;(have H1:(some (a7,b0,([]:List (S25)),true))=some (r1,r2,r3,r4):=by rw [if_pos rfl] at H;exact H);clear H;have H:=H1;clear H1;simp only [Option.some.injEq,Prod.mk.injEq] at H;obtain⟨rfl,rfl,rfl,rfl⟩:=H
  go_enter Try.func6,Try.ntmps6
  go_wp2_with (first|((with_reducible refine gate_dst (N:=2) rfl ?_);refine box_event ?hg (N:=2) ?hd (cs:= #[.slice none 0 0,.slice none 0 0,.slice none 0 0]) (t:=28) ?hr ?_;(case hd=>rfl);(case hg=>rfl);(case hr=> exact zq6);intro a2 hg w4 hbox hb;have c0:=zqm (below_step zq0 hb);have a1:=zqm (hbox);have c6:=zqm ((by rw [hg];exact(below_size zq0):w.heap.size≤a2));have a4:=zqm ((by rw [hg];exact(below_size zq0):w.heap.size≤a2));clear HB;have HB:=c0;clear c0 hb hbox hg)|((with_reducible refine gate_callee (f:=15) rfl ?_);refine goesL_ (some 8) rfl rfl Try.func15 zqk rfl #[.int .i64 a0] rfl zq2 ?_;(with_reducible refine(impl_SetsOf.calls a0 a7 b0 true _ A2.out).mono ?_);rintro e w5 ⟨d2,d3,rfl,b8,b9,hb⟩;refine⟨_,rfl,?_⟩;have a8:=zqm (Kd.S_lower b8 (below_size zq1));have a9:=zqm (Kd.R_lower b9 (below_size zq1));replace a1:=zqm (blk_below (g:=a2) (o:= .cells #[.slice none 0 0,.slice none 0 0,.slice none 0 0] 28 (0,0)) (zqe a1.out) hb);replace HB:=zqm (below_step zq1 hb);clear hb b8 b9)|((with_reducible refine gate_dst (N:=4) rfl ?_);refine box_event ?hg (N:=4) ?hd (cs:= #[.slice none 0 0,.slice none 0 0]) (t:=25) ?hr ?_;(case hd=>rfl);(case hg=>rfl);(case hr=> exact zq6);intro a3 hg w6 hbox hb;replace a8:=zqm (Kd.S_below (zqfS a8.out) hb);replace a9:=zqm (Kd.R_below (zqfR a9.out) hb);have c1:=zqm (blk_below (g:=a2) (o:= .cells #[.slice none 0 0,.slice none 0 0,.slice none 0 0] 28 (0,0)) (zqe a1.out) hb);have c2:=zqm (below_step zq1 hb);have a6:=zqm (hbox);have c7:=zqm ((by rw [hg];exact(below_size zq1):w.heap.size≤a3));have b6:=zqm ((by rw [hg];exact(below_size zq1):w.heap.size≤a3));have a5:=zqm ((by rw [hg];exact Nat.ne_of_lt (blk_lt (g:=a2) (o:= .cells #[.slice none 0 0,.slice none 0 0,.slice none 0 0] 28 (0,0)) (zqe a1.out)):a2≠a3));have b1:=zqm ((by rw [hg];exact Nat.ne_of_gt (blk_lt (g:=a2) (o:= .cells #[.slice none 0 0,.slice none 0 0,.slice none 0 0] 28 (0,0)) (zqe a1.out)):a3≠a2));clear a1 HB;have a1:=c1;have HB:=c2;clear c1 c2 hb hbox hg;obtain⟨b4,b5,f0⟩:=Kd.S_slice a8.out;subst f0;have g1:=b1.out;have g2:=a5.out;have f1:w6.cell? ⟨a3,0,none⟩=some (.slice none 0 0):=(blk_cell a6.out 0).trans rfl;have f2:w6.cell? ⟨a3,1,none⟩=some (.slice none 0 0):=(blk_cell a6.out 1).trans rfl;have f3:=blk_frozen a6.out 0;have f4:=blk_frozen a6.out 1;obtain⟨b2,b3,c9⟩:=Kd.R_slice a9.out;subst c9;have d4:w6.cell? ⟨a2,0,none⟩=some (.slice none 0 0):=(blk_cell a1.out 0).trans rfl;have d5:w6.cell? ⟨a2,1,none⟩=some (.slice none 0 0):=(blk_cell a1.out 1).trans rfl;have d6:w6.cell? ⟨a2,2,none⟩=some (.slice none 0 0):=(blk_cell a1.out 2).trans rfl;have e2:=blk_frozen a1.out 0;have e3:=blk_frozen a1.out 1;have e4:=blk_frozen a1.out 2))
  refine bodyPost_ret (results_ct rfl _ _ a2 28 #[.slice b4 a7.length b5,.slice b2 b0.length b3,.slice none 0 0] (0,0) _ rfl zq19 Try.underlying28 rfl zqk) rfl ?_;exact⟨_,_,_,zq5,zq14,zq13,zq12,zq27⟩
 ·replace c3:=Bool.eq_false_iff.mpr c3;subst c3;(have H1:(some (([]:List (List Int)),([]:List Int),([]:List (S25)),false))=some (r1,r2,r3,r4):=by rw [if_neg (show¬(false=true) by decide)] at H;exact H);clear H;have H:=H1;clear H1;simp only [Option.some.injEq,Prod.mk.injEq] at H;obtain⟨rfl,rfl,rfl,rfl⟩:=H
  go_enter Try.func6,Try.ntmps6
  go_wp2_with (first|((with_reducible refine gate_dst (N:=2) rfl ?_);refine box_event ?hg (N:=2) ?hd (cs:= #[.slice none 0 0,.slice none 0 0,.slice none 0 0]) (t:=28) ?hr ?_;(case hd=>rfl);(case hg=>rfl);(case hr=> exact zq6);intro a2 hg g3 hbox hb;have c0:=zqm (below_step zq0 hb);have a1:=zqm (hbox);have c6:=zqm ((by rw [hg];exact(below_size zq0):w.heap.size≤a2));have a4:=zqm ((by rw [hg];exact(below_size zq0):w.heap.size≤a2));clear HB;have HB:=c0;clear c0 hb hbox hg)|((with_reducible refine gate_callee (f:=15) rfl ?_);refine goesL_ (some 8) rfl rfl Try.func15 zqk rfl #[.int .i64 a0] rfl zq2 ?_;(with_reducible refine(impl_SetsOf.calls a0 a7 b0 false _ A2.out).mono ?_);rintro e g4 ⟨d2,d3,rfl,b8,b9,hb⟩;refine⟨_,rfl,?_⟩;have a8:=zqm (Kd.S_lower b8 (below_size zq1));have a9:=zqm (Kd.R_lower b9 (below_size zq1));replace a1:=zqm (blk_below (g:=a2) (o:= .cells #[.slice none 0 0,.slice none 0 0,.slice none 0 0] 28 (0,0)) (zqe a1.out) hb);replace HB:=zqm (below_step zq1 hb);clear hb b8 b9)|((with_reducible refine gate_dst (N:=4) rfl ?_);refine box_event ?hg (N:=4) ?hd (cs:= #[.slice none 0 0,.slice none 0 0]) (t:=25) ?hr ?_;(case hd=>rfl);(case hg=>rfl);(case hr=> exact zq6);intro a3 hg c4 hbox hb;replace a8:=zqm (Kd.S_below (zqfS a8.out) hb);replace a9:=zqm (Kd.R_below (zqfR a9.out) hb);have c1:=zqm (blk_below (g:=a2) (o:= .cells #[.slice none 0 0,.slice none 0 0,.slice none 0 0] 28 (0,0)) (zqe a1.out) hb);have c2:=zqm (below_step zq1 hb);have a6:=zqm (hbox);have c7:=zqm ((by rw [hg];exact(below_size zq1):w.heap.size≤a3));have b6:=zqm ((by rw [hg];exact(below_size zq1):w.heap.size≤a3));have a5:=zqm ((by rw [hg];exact Nat.ne_of_lt (blk_lt (g:=a2) (o:= .cells #[.slice none 0 0,.slice none 0 0,.slice none 0 0] 28 (0,0)) (zqe a1.out)):a2≠a3));have b1:=zqm ((by rw [hg];exact Nat.ne_of_gt (blk_lt (g:=a2) (o:= .cells #[.slice none 0 0,.slice none 0 0,.slice none 0 0] 28 (0,0)) (zqe a1.out)):a3≠a2));clear a1 HB;have a1:=c1;have HB:=c2;clear c1 c2 hb hbox hg;obtain⟨f7,f9,d0⟩:=Kd.S_slice a8.out;subst d0;have f5:=b1.out;have f6:=a5.out;have d7:c4.cell? ⟨a3,0,none⟩=some (.slice none 0 0):=(blk_cell a6.out 0).trans rfl;have d8:c4.cell? ⟨a3,1,none⟩=some (.slice none 0 0):=(blk_cell a6.out 1).trans rfl;have e5:=blk_frozen a6.out 0;have e6:=blk_frozen a6.out 1;obtain⟨f8,g0,d1⟩:=Kd.R_slice a9.out;subst d1;have d9:c4.cell? ⟨a2,0,none⟩=some (.slice none 0 0):=(blk_cell a1.out 0).trans rfl;have e0:c4.cell? ⟨a2,1,none⟩=some (.slice none 0 0):=(blk_cell a1.out 1).trans rfl;have e1:c4.cell? ⟨a2,2,none⟩=some (.slice none 0 0):=(blk_cell a1.out 2).trans rfl;have e7:=blk_frozen a1.out 0;have e8:=blk_frozen a1.out 1;have e9:=blk_frozen a1.out 2))
  refine bodyPost_ret (results_ct rfl _ _ a2 28 #[.slice none 0 0,.slice none 0 0,.slice none 0 0] (0,0) _ rfl zq24 Try.underlying28 rfl zqk) rfl ?_;exact⟨_,_,_,zq5,zq38,zq12,zq12,zq27⟩
end
end Go.Proofs.Ytndbbbnofmlkdaa.Print
end
section
namespace Go.Proofs.Ytndbbbnofmlkdaa.Print
open Go.RowKit Go.Proofs.YtndbbbnofmlkdaaW.PrintWords Go.Proofs.YtndbbbnofmlkdaaW.PrintLast Go.Proofs.YtndbbbnofmlkdaaW.PrintMore
open Oml
theorem eq_desk {U : List (List Int)} {N : List Int} {A0 A1 A2 B0 B1 B2 : Option Addr} {a0 a1 a2 b0 b1 b2 : Nat} {w : World} (h : laws_eqDesk.f 400 U N [] U N [] = some true) (h0 : Kd.C (Kd.slice 3 (Kd.int .i64)) w A0 U.length U) (c0 : U.length ≤ a0) (h1 : Kd.C (Kd.int .i64) w A1 N.length N) (c1 : N.length ≤ a1) (k0 : Kd.C (Kd.slice 3 (Kd.int .i64)) w B0 U.length U) (d0 : U.length ≤ b0) (k1 : Kd.C (Kd.int .i64) w B1 N.length N) (d1 : N.length ≤ b1) :
 Calls Try.prog 7 #[.agg #[.slice A0 U.length a0,.slice A1 N.length a1,.slice A2 0 a2],.agg #[.slice B0 U.length b0,.slice B1 N.length b1,.slice B2 0 b2]] w fun e w'=>e= .returned (.bool true)∧Below w.heap.size w w':=
 laws_eqDesk.calls 400 A0 a0 U A1 a1 N A2 a2 [] B0 b0 U B1 b1 N B2 b2 [] true w h0 c0 h1 c1 ⟨rfl,Nat.zero_le _,fun h=>absurd h (Nat.lt_irrefl 0)⟩ (Nat.zero_le _) k0 d0 k1 d1 ⟨rfl,Nat.zero_le _,fun h=>absurd h (Nat.lt_irrefl 0)⟩ (Nat.zero_le _) h
theorem held_desk {U : List (List Int)} {N : List Int} {m : Int} {A0 A1 A2 : Option Addr} {a0 a1 a2 : Nat} {w : World} (h : laws_heldDesk.f 400 (markR U 1) (numL (1 + lenSum U) N.length) [] 1 = some m) (h0 : U.length = (markR U 1).length ∧ U.length ≤ a0 ∧ Kd.C (Kd.slice 3 (Kd.int .i64)) w A0 (markR U 1).length (markR U 1)) (h1 : N.length = (numL (1 + lenSum U) N.length).length ∧ N.length ≤ a1 ∧ Kd.C (Kd.int .i64) w A1 (numL (1 + lenSum U) N.length).length (numL (1 + lenSum U) N.length)) :
 Calls Try.prog 9 #[.agg #[.slice A0 U.length a0,.slice A1 N.length a1,.slice A2 0 a2],.int .i64 1] w fun e w'=>e= .returned (.int .i64 m)∧Below w.heap.size w w':=by
 have k:=laws_heldDesk.calls 400 A0 a0 (markR U 1) A1 a1 (numL (1+lenSum U) N.length) A2 a2 [] 1 m w h0.2.2 (by rw [← h0.1];exact h0.2.1) h1.2.2 (by rw [← h1.1];exact h1.2.1) ⟨rfl,Nat.zero_le _,fun h=>absurd h (Nat.lt_irrefl 0)⟩ (Nat.zero_le _) h
 rw [← h0.1,← h1.1] at k
 exact k
structure DnF (x : Int) (U : List (List Int)) (N : List Int) (o : Bool) (m : Int) : Prop where
 sp:spec_DeskNew.f 400 x=some (U,N,[],o)
 im:impl_DeskNew.f x=some (U,N,[],o)
 eq:laws_eqDesk.f 400 U N [] U N []=some true
 he:laws_heldDesk.f 400 (markR U 1) (numL (1+lenSum U) N.length) [] 1=some m
 hm:1+(lenSum U:Int)+(N.length:Int)=m
 h0:0≤m
 l0:U.length≤1048576
 l1: ∀r ∈ U,r.length≤1048576
 l2:N.length≤1048576
theorem dn_all (x : Int) : ∃ U N o m, DnF x U N o m := by
 by_cases h:0≤x∧x≤3
 ·have hx:x=0∨x=1∨x=2∨x=3:=by omega
  rcases hx with rfl|rfl|rfl|rfl
  ·exact⟨sets0.1,sets0.2,true,1+(lenSum sets0.1:Int)+(sets0.2.length:Int),⟨by kernel_rfl,by kernel_rfl,by kernel_rfl,by kernel_rfl,rfl,by omega,of_decide_eq_true zqk,of_decide_eq_true zqk,of_decide_eq_true zqk⟩⟩
  ·exact⟨sets1.1,sets1.2,true,1+(lenSum sets1.1:Int)+(sets1.2.length:Int),⟨by kernel_rfl,by kernel_rfl,by kernel_rfl,by kernel_rfl,rfl,by omega,of_decide_eq_true zqk,of_decide_eq_true zqk,of_decide_eq_true zqk⟩⟩
  ·exact⟨sets2.1,sets2.2,true,1+(lenSum sets2.1:Int)+(sets2.2.length:Int),⟨by kernel_rfl,by kernel_rfl,by kernel_rfl,by kernel_rfl,rfl,by omega,of_decide_eq_true zqk,of_decide_eq_true zqk,of_decide_eq_true zqk⟩⟩
  ·exact⟨sets3.1,sets3.2,true,1+(lenSum sets3.1:Int)+(sets3.2.length:Int),⟨by kernel_rfl,by kernel_rfl,by kernel_rfl,by kernel_rfl,rfl,by omega,of_decide_eq_true zqk,of_decide_eq_true zqk,of_decide_eq_true zqk⟩⟩
 ·refine⟨[],[],false,1,?_,?_,by kernel_rfl,by kernel_rfl,by decide,by decide,by decide,by simp,by decide⟩
  ·have e:spec_l1In.f x 0 3=some false:=by
    unfold spec_l1In.f
    by_cases h1:x≥0
    ·rw [if_pos h1,decide_eq_false (by omega)]
    ·rw [if_neg h1]
   simp [spec_DeskNew.f,spec_SetsOf.f,e]
  ·have e:impl_SetsOf.f x=some ([],[],false):=by
    unfold impl_SetsOf.f
    rw [if_neg (by omega),if_neg (by omega),if_neg (by omega),if_neg (by omega)]
   simp [impl_DeskNew.f,e]
set_option maxHeartbeats 4000000 in
set_option maxRecDepth 100000 in
theorem laws_FnExactDeskNew.holds (x : Int) (w : World) :
 Calls Try.prog 3 #[.int .i64 x] w fun e w'=>e= .returned (.bool true)∧Below w.heap.size w w':=by
 have hu28:=Try.underlying28
 obtain⟨U,N,o,m,hd⟩:=dn_all x
 have H1:=zqm hd.sp
 have H2:=zqm hd.im
 have H3:=zqm hd.eq
 have H4:=zqm hd.he
 have HM:=zqm hd.hm
 have HL:=zqm (show U.length≤1048576∧(∀r ∈ U,r.length≤1048576)∧N.length≤1048576 from ⟨hd.l0,hd.l1,hd.l2⟩)
 have pm:(m<0)=False:=eq_false (by have:=hd.h0;omega)
 have pm':decide (m<0)=false:=decide_eq_false (by have:=hd.h0;omega)
 have HB:=zqm (Below.refl w.heap.size w)
 clear hd
 have tok1:True:=trivial
 cases o with
 |true=>
  go_enter Try.func3,Try.ntmps3
  go_wp2_with (first|(have _t:=tok1;go_at_call 5;(with_reducible refine(spec_DeskNew.calls 400 x _ _ _ _ _ H1.out).mono ?_);rintro e w' ⟨v0,v1,v2,rfl,hs,hr,h3,hb⟩;obtain⟨A0,a0,rfl⟩:=Kd.S_slice hs;obtain⟨A1,a1,rfl⟩:=Kd.R_slice hr;obtain⟨A2,a2,rfl⟩:=(show∃X x,v2= .slice X 0 x from Kd.R_slice h3);obtain⟨s1,hs1⟩: ∃s1,s1=w'.heap.size:=⟨_,rfl⟩;have HS0:=zqm (show Kd.S (Kd.slice 3 (Kd.int .i64)) 23 w' w.heap.size (fun k=>k<s1) (.slice A0 U.length a0) U from Kd.S_mono (Kd.S_bound hs) (fun k h=>by rw [hs1];exact h.2.2.1));have HR0:=zqm (show Kd.R (Kd.int .i64) 3 w' w.heap.size (fun k=>k<s1) (.slice A1 N.length a1) N from Kd.R_mono (Kd.R_bound hr) (fun k h=>by rw [hs1];exact h.2.2.1));have HZ:=zqm (show s1≤w'.heap.size from by rw [hs1];exact Nat.le_refl _);have n0_:=zqm (below_step HB.out hb);clear HB;have HB:=n0_;clear n0_;clear hs hr h3 hb hs1;clear tok1 _t;have tok2:True:=trivial)|(have _t:=tok2;(with_reducible refine gate_dst (N:=3) rfl ?_);refine box_event ?hg (N:=3) ?hd (cs:= #[.slice none 0 0,.slice none 0 0,.slice none 0 0]) (t:=28) ?hr ?_;(case hd=>rfl);(case hg=>rfl);(case hr=> exact zq6);intro g3 hg_ wb3 hbox hb;have HBo:=HB;have HZo:=HZ;have n0_:=zqm (below_step HB.out hb);have n1_:=zqm (Kd.S_below HS0.out hb);have n2_:=zqm (Kd.R_below HR0.out hb);have n3_:=zqm (Nat.le_trans HZ.out hb.size);clear HB HS0 HR0 HZ;have HB:=n0_;have HS0:=n1_;have HR0:=n2_;have HZ:=n3_;clear n0_ n1_ n2_ n3_;have HX:=zqm hbox;have HXW:=zqm (show w.heap.size≤g3 from zq76);have HXZ:=zqm (show _≤g3 from by rw [hg_];exact HZo.out);have HXL:=zqm (show g3<wb3.heap.size from blk_lt HX.out);clear HBo HZo hbox hb hg_;clear tok2 _t;have tok3:True:=trivial)|(have _t:=tok3;(with_reducible refine gate_store (t:=28) (p:=3) rfl ?_);have hc0_:wb3.cell? ⟨g3,0,none⟩=some (.slice none 0 0):=(blk_cell HX.out 0).trans rfl;have hf0_:=blk_frozen HX.out 0;have hc1_:wb3.cell? ⟨g3,1,none⟩=some (.slice none 0 0):=(blk_cell HX.out 1).trans rfl;have hf1_:=blk_frozen HX.out 1;have hc2_:wb3.cell? ⟨g3,2,none⟩=some (.slice none 0 0):=(blk_cell HX.out 2).trans rfl;have hf2_:=blk_frozen HX.out 2;refine store_event (t:=28) (p:=3) (v:=?vo_3) (w1:=((wb3.setCell ⟨g3,0,none⟩ (.slice A0 U.length a0)).setCell ⟨g3,1,none⟩ (.slice A1 N.length a1)).setCell ⟨g3,2,none⟩ (.slice A2 0 a2)) ?hg ?ho ?hn ?hr ?_;(case ho=>rfl);(case hg=>rfl);(case hn=>rfl);(case hr=> exact zq6);intro ws3 hw;clear hc0_ hc1_ hc2_ hf0_ hf1_ hf2_;have m_HS0:=zqm (show Kd.S (Kd.slice 3 (Kd.int .i64)) 23 ws3 w.heap.size (fun k=>k<s1) (.slice A0 U.length a0) U from zq36);clear HS0;have HS0:=m_HS0;clear m_HS0;have m_HR0:=zqm (show Kd.R (Kd.int .i64) 3 ws3 w.heap.size (fun k=>k<s1) (.slice A1 N.length a1) N from zq34);clear HR0;have HR0:=m_HR0;clear m_HR0;have n0_:=zqm ((by rw [hw];exact below_set (below_set (below_set HB.out HXW.out) HXW.out) HXW.out:Below w.heap.size w ws3));have n1_:=zqm ((by rw [hw];exact blk_put (blk_put (blk_put HX.out 0 _ rfl) 1 _ rfl) 2 _ rfl:ws3.heap[g3]? =some (.cells #[.slice A0 U.length a0,.slice A1 N.length a1,.slice A2 0 a2] 28 (0,0))));have n2_:=zqm ((by rw [hw];simpa [World.setCell] using HXL.out:g3<ws3.heap.size));clear HB HX HXL;have HB:=n0_;have HX:=n1_;have HXL:=n2_;clear n0_ n1_ n2_;clear hw;clear HZ tok3 _t;have tok4:True:=trivial)|(have _t:=tok4;go_at_call 6;(with_reducible refine(impl_DeskNew.calls x _ _ _ _ _ H2.out).mono ?_);rintro e w' ⟨v0,v1,v2,rfl,hs,hr,h3,hb⟩;obtain⟨B0,b0,rfl⟩:=Kd.S_slice hs;obtain⟨B1,b1,rfl⟩:=Kd.R_slice hr;obtain⟨B2,b2,rfl⟩:=(show∃X x,v2= .slice X 0 x from Kd.R_slice h3);obtain⟨e1,he1⟩: ∃e1,e1=ws3.heap.size:=⟨_,rfl⟩;obtain⟨e2,he2⟩: ∃e2,e2=w'.heap.size:=⟨_,rfl⟩;have HS1:=zqm (show Kd.S (Kd.slice 3 (Kd.int .i64)) 23 w' w.heap.size (fun k=>some k≠(Value.slice B1 N.length b1).ownBlock∧e1≤k∧k<e2) (.slice B0 U.length b0) U from Kd.S_lower (Kd.S_mono (Kd.S_bound hs) (fun k h=>by rw [he1,he2];exact⟨h.1,h.2.1,h.2.2.1⟩)) HB.out.size);have HR1:=zqm (show Kd.R (Kd.int .i64) 3 w' w.heap.size (fun k=>some k=(Value.slice B1 N.length b1).ownBlock∧e1≤k∧k<e2) (.slice B1 N.length b1) N from Kd.R_lower (Kd.R_mono (Kd.R_bound (Kd.R_tight rfl hr)) (fun k h=>by rw [he1,he2];exact⟨h.1,h.2.1,h.2.2.1⟩)) HB.out.size);have HXE:=zqm (show g3<e1 from by rw [he1];exact HXL.out);have HSE:=zqm (show s1≤e1 from by rw [he1];exact Nat.le_trans HXZ.out (Nat.le_of_lt HXL.out));have HEE:=zqm (show e1≤e2 from by rw [he1,he2];exact hb.size);have HZ:=zqm (show e2≤w'.heap.size from by rw [he2];exact Nat.le_refl _);have n0_:=zqm (below_step HB.out hb);have n1_:=zqm (Kd.S_below HS0.out hb);have n2_:=zqm (Kd.R_below HR0.out hb);have n3_:=zqm (blk_below HX.out hb);clear HB HS0 HR0 HX;have HB:=n0_;have HS0:=n1_;have HR0:=n2_;have HX:=n3_;clear n0_ n1_ n2_ n3_;clear hs hr h3 hb he1 he2 HXL;clear tok4 _t;have tok5:True:=trivial)|(have _t:=tok5;(with_reducible refine gate_dst (N:=5) rfl ?_);refine box_event ?hg (N:=5) ?hd (cs:= #[.slice none 0 0,.slice none 0 0,.slice none 0 0]) (t:=28) ?hr ?_;(case hd=>rfl);(case hg=>rfl);(case hr=> exact zq6);intro g5 hg_ wb5 hbox hb;have HBo:=HB;have HZo:=HZ;have n0_:=zqm (below_step HB.out hb);have n1_:=zqm (Kd.S_below HS0.out hb);have n2_:=zqm (Kd.R_below HR0.out hb);have n3_:=zqm (blk_below HX.out hb);have n4_:=zqm (Kd.S_below HS1.out hb);have n5_:=zqm (Kd.R_below HR1.out hb);have n6_:=zqm (Nat.le_trans HZ.out hb.size);clear HB HS0 HR0 HX HS1 HR1 HZ;have HB:=n0_;have HS0:=n1_;have HR0:=n2_;have HX:=n3_;have HS1:=n4_;have HR1:=n5_;have HZ:=n6_;clear n0_ n1_ n2_ n3_ n4_ n5_ n6_;have HY:=zqm hbox;have HYW:=zqm (show w.heap.size≤g5 from zq76);have HYZ:=zqm (show _≤g5 from by rw [hg_];exact HZo.out);have HYL:=zqm (show g5<wb5.heap.size from blk_lt HY.out);clear HBo HZo hbox hb hg_;have HNE:=zqm (show g3≠g5 from Nat.ne_of_lt (Nat.lt_of_lt_of_le HXE.out (Nat.le_trans HEE.out HYZ.out)));clear tok5 _t;have tok6:True:=trivial)|(have _t:=tok6;(with_reducible refine gate_store (t:=28) (p:=5) rfl ?_);have hc0_:wb5.cell? ⟨g5,0,none⟩=some (.slice none 0 0):=(blk_cell HY.out 0).trans rfl;have hf0_:=blk_frozen HY.out 0;have hc1_:wb5.cell? ⟨g5,1,none⟩=some (.slice none 0 0):=(blk_cell HY.out 1).trans rfl;have hf1_:=blk_frozen HY.out 1;have hc2_:wb5.cell? ⟨g5,2,none⟩=some (.slice none 0 0):=(blk_cell HY.out 2).trans rfl;have hf2_:=blk_frozen HY.out 2;refine store_event (t:=28) (p:=5) (v:=?vo_5) (w1:=((wb5.setCell ⟨g5,0,none⟩ (.slice B0 U.length b0)).setCell ⟨g5,1,none⟩ (.slice B1 N.length b1)).setCell ⟨g5,2,none⟩ (.slice B2 0 b2)) ?hg ?ho ?hn ?hr ?_;(case ho=>rfl);(case hg=>rfl);(case hn=>rfl);(case hr=> exact zq6);intro ws5 hw;clear hc0_ hc1_ hc2_ hf0_ hf1_ hf2_;have m_HS0:=zqm (show Kd.S (Kd.slice 3 (Kd.int .i64)) 23 ws5 w.heap.size (fun k=>k<s1) (.slice A0 U.length a0) U from zq21);clear HS0;have HS0:=m_HS0;clear m_HS0;have m_HR0:=zqm (show Kd.R (Kd.int .i64) 3 ws5 w.heap.size (fun k=>k<s1) (.slice A1 N.length a1) N from zq20);clear HR0;have HR0:=m_HR0;clear m_HR0;have m_HS1:=zqm (show Kd.S (Kd.slice 3 (Kd.int .i64)) 23 ws5 w.heap.size (fun k=>some k≠(Value.slice B1 N.length b1).ownBlock∧e1≤k∧k<e2) (.slice B0 U.length b0) U from zq33);clear HS1;have HS1:=m_HS1;clear m_HS1;have m_HR1:=zqm (show Kd.R (Kd.int .i64) 3 ws5 w.heap.size (fun k=>some k=(Value.slice B1 N.length b1).ownBlock∧e1≤k∧k<e2) (.slice B1 N.length b1) N from zq32);clear HR1;have HR1:=m_HR1;clear m_HR1;have n0_:=zqm ((by rw [hw];exact below_set (below_set (below_set HB.out HYW.out) HYW.out) HYW.out:Below w.heap.size w ws5));have n1_:=zqm ((by rw [hw];exact blk_put (blk_put (blk_put HY.out 0 _ rfl) 1 _ rfl) 2 _ rfl:ws5.heap[g5]? =some (.cells #[.slice B0 U.length b0,.slice B1 N.length b1,.slice B2 0 b2] 28 (0,0))));have n2_:=zqm ((by rw [hw];simpa [World.setCell] using HYL.out:g5<ws5.heap.size));have n3_:=zqm ((by rw [hw];exact blk_far (blk_far (blk_far HX.out HNE.out _) HNE.out _) HNE.out _:ws5.heap[g3]? =some (.cells #[.slice A0 U.length a0,.slice A1 N.length a1,.slice A2 0 a2] 28 (0,0))));clear HB HY HYL HX;have HB:=n0_;have HY:=n1_;have HYL:=n2_;have HX:=n3_;clear n0_ n1_ n2_ n3_;clear hw;have hx0:ws5.cell? ⟨g3,0,none⟩=some (.slice A0 U.length a0):=(blk_cell HX.out 0).trans rfl;have hx1:ws5.cell? ⟨g3,1,none⟩=some (.slice A1 N.length a1):=(blk_cell HX.out 1).trans rfl;have hx2:ws5.cell? ⟨g3,2,none⟩=some (.slice A2 0 a2):=(blk_cell HX.out 2).trans rfl;have hy0:ws5.cell? ⟨g5,0,none⟩=some (.slice B0 U.length b0):=(blk_cell HY.out 0).trans rfl;have hy1:ws5.cell? ⟨g5,1,none⟩=some (.slice B1 N.length b1):=(blk_cell HY.out 1).trans rfl;have hy2:ws5.cell? ⟨g5,2,none⟩=some (.slice B2 0 b2):=(blk_cell HY.out 2).trans rfl;have HDJ:=zqm (show∀k,(fun k=>some k=(Value.slice B1 N.length b1).ownBlock∧e1≤k∧k<e2) k→ ¬(fun k=>some k≠(Value.slice B1 N.length b1).ownBlock∧e1≤k∧k<e2) k from fun k h1 h2=>h2.1 h1.1);clear HZ tok6 _t;have tok7:True:=trivial)|(have _t:=tok7;go_at_call 7;(with_reducible refine(eq_desk H3.out (Kd.S_reads' HS1.out).2.2 (Kd.S_reads' HS1.out).2.1 (Kd.R_reads' HR1.out).2.2 (Kd.R_reads' HR1.out).2.1 (Kd.S_reads' HS0.out).2.2 (Kd.S_reads' HS0.out).2.1 (Kd.R_reads' HR0.out).2.2 (Kd.R_reads' HR0.out).2.1).mono ?_);rintro e w' ⟨rfl,hb⟩;clear hx0 hx1 hx2 hy0 hy1 hy2;have n0_:=zqm (below_step HB.out hb);have n1_:=zqm (Kd.S_below HS0.out hb);have n2_:=zqm (Kd.R_below HR0.out hb);have n3_:=zqm (blk_below HX.out hb);have n4_:=zqm (Kd.S_below HS1.out hb);have n5_:=zqm (Kd.R_below HR1.out hb);have n6_:=zqm (blk_below HY.out hb);clear HB HS0 HR0 HX HS1 HR1 HY;have HB:=n0_;have HS0:=n1_;have HR0:=n2_;have HX:=n3_;have HS1:=n4_;have HR1:=n5_;have HY:=n6_;clear n0_ n1_ n2_ n3_ n4_ n5_ n6_;have hx0:w'.cell? ⟨g3,0,none⟩=some (.slice A0 U.length a0):=(blk_cell HX.out 0).trans rfl;have hx1:w'.cell? ⟨g3,1,none⟩=some (.slice A1 N.length a1):=(blk_cell HX.out 1).trans rfl;have hx2:w'.cell? ⟨g3,2,none⟩=some (.slice A2 0 a2):=(blk_cell HX.out 2).trans rfl;have hy0:w'.cell? ⟨g5,0,none⟩=some (.slice B0 U.length b0):=(blk_cell HY.out 0).trans rfl;have hy1:w'.cell? ⟨g5,1,none⟩=some (.slice B1 N.length b1):=(blk_cell HY.out 1).trans rfl;have hy2:w'.cell? ⟨g5,2,none⟩=some (.slice B2 0 b2):=(blk_cell HY.out 2).trans rfl;clear hb;clear tok7 _t;have tok8:True:=trivial)|(have _t:=tok8;go_at_call 8;(with_reducible refine(markDesk_calls U N 1 (fun k=>some k≠(Value.slice B1 N.length b1).ownBlock∧e1≤k∧k<e2) (fun k=>some k=(Value.slice B1 N.length b1).ownBlock∧e1≤k∧k<e2) B0 b0 B1 b1 B2 b2 w _ HB.out HS1.out HR1.out HDJ.out (by omega) (by omega) HL.out.1 HL.out.2.1 HL.out.2.2).mono ?_);rintro e w' ⟨he,hs,hr,hb,hk⟩;rw [HM.out] at he;subst he;clear hx0 hx1 hx2 hy0 hy1 hy2;have n0_:=zqm (hb);have n1_:=zqm (hs);have n2_:=zqm (hr);have n3_:=zqm (Kd.S_kept HS0.out hk (fun k h h2=>by have:=HSE.out;rcases h2 with h2|h2 <;> omega));have n4_:=zqm (Kd.R_kept HR0.out hk (fun k h h2=>by have:=HSE.out;rcases h2 with h2|h2 <;> omega));have n5_:=zqm (blk_kept HX.out hk (fun h2=>by have:=HXE.out;rcases h2 with h2|h2 <;> omega));have n6_:=zqm (blk_kept HY.out hk (fun h2=>by have:=HYZ.out;rcases h2 with h2|h2 <;> omega));clear HS0 HR0 HX HY;have HBn:=n0_;have HS1n:=n1_;have HR1n:=n2_;have HS0:=n3_;have HR0:=n4_;have HX:=n5_;have HY:=n6_;clear n0_ n1_ n2_ n3_ n4_ n5_ n6_;clear HB HS1 HR1 hs hr hb hk;have HB:=HBn;have HS1:=HS1n;have HR1:=HR1n;clear HBn HS1n HR1n;have hx0:w'.cell? ⟨g3,0,none⟩=some (.slice A0 U.length a0):=(blk_cell HX.out 0).trans rfl;have hx1:w'.cell? ⟨g3,1,none⟩=some (.slice A1 N.length a1):=(blk_cell HX.out 1).trans rfl;have hx2:w'.cell? ⟨g3,2,none⟩=some (.slice A2 0 a2):=(blk_cell HX.out 2).trans rfl;have hy0:w'.cell? ⟨g5,0,none⟩=some (.slice B0 U.length b0):=(blk_cell HY.out 0).trans rfl;have hy1:w'.cell? ⟨g5,1,none⟩=some (.slice B1 N.length b1):=(blk_cell HY.out 1).trans rfl;have hy2:w'.cell? ⟨g5,2,none⟩=some (.slice B2 0 b2):=(blk_cell HY.out 2).trans rfl;clear tok8 _t;have tok9:True:=trivial)|(have _t:=tok9;go_at_call 9;(with_reducible refine(held_desk H4.out (Kd.S_reads' HS1.out) (Kd.R_reads' HR1.out)).mono ?_);rintro e w' ⟨rfl,hb⟩;clear hx0 hx1 hx2 hy0 hy1 hy2;have n0_:=zqm (below_step HB.out hb);have n1_:=zqm (Kd.S_below HS0.out hb);have n2_:=zqm (Kd.R_below HR0.out hb);have n3_:=zqm (blk_below HX.out hb);have n4_:=zqm (Kd.S_below HS1.out hb);have n5_:=zqm (Kd.R_below HR1.out hb);have n6_:=zqm (blk_below HY.out hb);clear HB HS0 HR0 HX HS1 HR1 HY;have HB:=n0_;have HS0:=n1_;have HR0:=n2_;have HX:=n3_;have HS1:=n4_;have HR1:=n5_;have HY:=n6_;clear n0_ n1_ n2_ n3_ n4_ n5_ n6_;clear hb;have hx0:w'.cell? ⟨g3,0,none⟩=some (.slice A0 U.length a0):=(blk_cell HX.out 0).trans rfl;have hx1:w'.cell? ⟨g3,1,none⟩=some (.slice A1 N.length a1):=(blk_cell HX.out 1).trans rfl;have hx2:w'.cell? ⟨g3,2,none⟩=some (.slice A2 0 a2):=(blk_cell HX.out 2).trans rfl;have hy0:w'.cell? ⟨g5,0,none⟩=some (.slice B0 U.length b0):=(blk_cell HY.out 0).trans rfl;have hy1:w'.cell? ⟨g5,1,none⟩=some (.slice B1 N.length b1):=(blk_cell HY.out 1).trans rfl;have hy2:w'.cell? ⟨g5,2,none⟩=some (.slice B2 0 b2):=(blk_cell HY.out 2).trans rfl;clear tok9 _t;have tok10:True:=trivial)|(have _t:=tok10;go_at_call 6;(with_reducible refine(impl_DeskNew.calls x _ _ _ _ _ H2.out).mono ?_);rintro e w' ⟨v0,v1,v2,rfl,hs,hr,h3,hb⟩;obtain⟨C0,c0,rfl⟩:=Kd.S_slice hs;obtain⟨C1,c1,rfl⟩:=Kd.R_slice hr;obtain⟨C2,c2,rfl⟩:=(show∃X x,v2= .slice X 0 x from Kd.R_slice h3);obtain⟨e3,he3⟩: ∃e3,e3=w'.heap.size:=⟨_,rfl⟩;have HS2:=zqm (show Kd.S (Kd.slice 3 (Kd.int .i64)) 23 w' w.heap.size (fun k=>k<e3) (.slice C0 U.length c0) U from Kd.S_lower (Kd.S_mono (Kd.S_bound hs) (fun k h=>by rw [he3];exact h.2.2.1)) HB.out.size);have HR2:=zqm (show Kd.R (Kd.int .i64) 3 w' w.heap.size (fun k=>k<e3) (.slice C1 N.length c1) N from Kd.R_lower (Kd.R_mono (Kd.R_bound hr) (fun k h=>by rw [he3];exact h.2.2.1)) HB.out.size);have HYE:=zqm (show g5<e3 from by rw [he3];exact Nat.lt_of_lt_of_le (blk_lt HY.out) hb.size);have HZ:=zqm (show e3≤w'.heap.size from by rw [he3];exact Nat.le_refl _);clear hx0 hx1 hx2 hy0 hy1 hy2;have n0_:=zqm (below_step HB.out hb);have n1_:=zqm (Kd.S_below HS0.out hb);have n2_:=zqm (Kd.R_below HR0.out hb);have n3_:=zqm (blk_below HX.out hb);have n4_:=zqm (Kd.S_below HS1.out hb);have n5_:=zqm (Kd.R_below HR1.out hb);have n6_:=zqm (blk_below HY.out hb);clear HB HS0 HR0 HX HS1 HR1 HY;have HB:=n0_;have HS0:=n1_;have HR0:=n2_;have HX:=n3_;have HS1:=n4_;have HR1:=n5_;have HY:=n6_;clear n0_ n1_ n2_ n3_ n4_ n5_ n6_;clear hs hr h3 hb he3;clear tok10 _t;have tok11:True:=trivial)|(have _t:=tok11;(with_reducible refine gate_dst (N:=9) rfl ?_);refine box_event ?hg (N:=9) ?hd (cs:= #[.slice none 0 0,.slice none 0 0,.slice none 0 0]) (t:=28) ?hr ?_;(case hd=>rfl);(case hg=>rfl);(case hr=> exact zq6);intro g9 hg_ wb9 hbox hb;have HBo:=HB;have HZo:=HZ;have n0_:=zqm (below_step HB.out hb);have n1_:=zqm (Kd.S_below HS0.out hb);have n2_:=zqm (Kd.R_below HR0.out hb);have n3_:=zqm (blk_below HX.out hb);have n4_:=zqm (Kd.S_below HS1.out hb);have n5_:=zqm (Kd.R_below HR1.out hb);have n6_:=zqm (blk_below HY.out hb);have n7_:=zqm (Kd.S_below HS2.out hb);have n8_:=zqm (Kd.R_below HR2.out hb);have n9_:=zqm (Nat.le_trans HZ.out hb.size);clear HB HS0 HR0 HX HS1 HR1 HY HS2 HR2 HZ;have HB:=n0_;have HS0:=n1_;have HR0:=n2_;have HX:=n3_;have HS1:=n4_;have HR1:=n5_;have HY:=n6_;have HS2:=n7_;have HR2:=n8_;have HZ:=n9_;clear n0_ n1_ n2_ n3_ n4_ n5_ n6_ n7_ n8_ n9_;have HW:=zqm hbox;have HWW:=zqm (show w.heap.size≤g9 from zq76);have HWZ:=zqm (show _≤g9 from by rw [hg_];exact HZo.out);have HWL:=zqm (show g9<wb9.heap.size from blk_lt HW.out);clear HBo HZo hbox hb hg_;have HNF:=zqm (show g3≠g9 from Nat.ne_of_lt zq78);have HNG:=zqm (show g5≠g9 from Nat.ne_of_lt (Nat.lt_of_lt_of_le HYE.out HWZ.out));clear tok11 _t;have tok12:True:=trivial)|(have _t:=tok12;have HK0:=zqm (show∀k,k<s1→k≠g9 from fun k hk=>Nat.ne_of_lt zq77);have HK1:=zqm (show∀k,k<e2→k≠g9 from fun k hk=>Nat.ne_of_lt (by have:=HYZ.out;have:=HYE.out;have:=HWZ.out;omega));(with_reducible refine gate_store (t:=28) (p:=9) rfl ?_);have hc0_:wb9.cell? ⟨g9,0,none⟩=some (.slice none 0 0):=(blk_cell HW.out 0).trans rfl;have hf0_:=blk_frozen HW.out 0;have hc1_:wb9.cell? ⟨g9,1,none⟩=some (.slice none 0 0):=(blk_cell HW.out 1).trans rfl;have hf1_:=blk_frozen HW.out 1;have hc2_:wb9.cell? ⟨g9,2,none⟩=some (.slice none 0 0):=(blk_cell HW.out 2).trans rfl;have hf2_:=blk_frozen HW.out 2;refine store_event (t:=28) (p:=9) (v:=?vo_9) (w1:=((wb9.setCell ⟨g9,0,none⟩ (.slice C0 U.length c0)).setCell ⟨g9,1,none⟩ (.slice C1 N.length c1)).setCell ⟨g9,2,none⟩ (.slice C2 0 c2)) ?hg ?ho ?hn ?hr ?_;(case ho=>rfl);(case hg=>rfl);(case hn=>rfl);(case hr=> exact zq6);intro ws9 hw;clear hc0_ hc1_ hc2_ hf0_ hf1_ hf2_;have m_HS0:=zqm (show Kd.S (Kd.slice 3 (Kd.int .i64)) 23 ws9 w.heap.size (fun k=>k<s1) (.slice A0 U.length a0) U from zq68);clear HS0;have HS0:=m_HS0;clear m_HS0;have m_HR0:=zqm (show Kd.R (Kd.int .i64) 3 ws9 w.heap.size (fun k=>k<s1) (.slice A1 N.length a1) N from zq67);clear HR0;have HR0:=m_HR0;clear m_HR0;have m_HS1:=zqm (show Kd.S (Kd.slice 3 (Kd.int .i64)) 23 ws9 w.heap.size (fun k=>some k≠(Value.slice B1 N.length b1).ownBlock∧e1≤k∧k<e2) (.slice B0 U.length b0) (markR U 1) from zq53);clear HS1;have HS1:=m_HS1;clear m_HS1;have m_HR1:=zqm (show Kd.R (Kd.int .i64) 3 ws9 w.heap.size (fun k=>some k=(Value.slice B1 N.length b1).ownBlock∧e1≤k∧k<e2) (.slice B1 N.length b1) (numL (1+lenSum U) N.length) from zq52);clear HR1;have HR1:=m_HR1;clear m_HR1;have m_HS2:=zqm (show Kd.S (Kd.slice 3 (Kd.int .i64)) 23 ws9 w.heap.size (fun k=>k<e3) (.slice C0 U.length c0) U from zq37);clear HS2;have HS2:=m_HS2;clear m_HS2;have m_HR2:=zqm (show Kd.R (Kd.int .i64) 3 ws9 w.heap.size (fun k=>k<e3) (.slice C1 N.length c1) N from zq35);clear HR2;have HR2:=m_HR2;clear m_HR2;have n0_:=zqm ((by rw [hw];exact below_set (below_set (below_set HB.out HWW.out) HWW.out) HWW.out:Below w.heap.size w ws9));have n1_:=zqm ((by rw [hw];exact blk_put (blk_put (blk_put HW.out 0 _ rfl) 1 _ rfl) 2 _ rfl:ws9.heap[g9]? =some (.cells #[.slice C0 U.length c0,.slice C1 N.length c1,.slice C2 0 c2] 28 (0,0))));have n2_:=zqm ((by rw [hw];simpa [World.setCell] using HWL.out:g9<ws9.heap.size));have n3_:=zqm ((by rw [hw];exact blk_far (blk_far (blk_far HX.out HNF.out _) HNF.out _) HNF.out _:ws9.heap[g3]? =some (.cells #[.slice A0 U.length a0,.slice A1 N.length a1,.slice A2 0 a2] 28 (0,0))));have n4_:=zqm ((by rw [hw];exact blk_far (blk_far (blk_far HY.out HNG.out _) HNG.out _) HNG.out _:ws9.heap[g5]? =some (.cells #[.slice B0 U.length b0,.slice B1 N.length b1,.slice B2 0 b2] 28 (0,0))));clear HB HW HWL HX HY;have HB:=n0_;have HW:=n1_;have HWL:=n2_;have HX:=n3_;have HY:=n4_;clear n0_ n1_ n2_ n3_ n4_;clear hw;have hx0:ws9.cell? ⟨g3,0,none⟩=some (.slice A0 U.length a0):=(blk_cell HX.out 0).trans rfl;have hx1:ws9.cell? ⟨g3,1,none⟩=some (.slice A1 N.length a1):=(blk_cell HX.out 1).trans rfl;have hx2:ws9.cell? ⟨g3,2,none⟩=some (.slice A2 0 a2):=(blk_cell HX.out 2).trans rfl;have hz0:ws9.cell? ⟨g9,0,none⟩=some (.slice C0 U.length c0):=(blk_cell HW.out 0).trans rfl;have hz1:ws9.cell? ⟨g9,1,none⟩=some (.slice C1 N.length c1):=(blk_cell HW.out 1).trans rfl;have hz2:ws9.cell? ⟨g9,2,none⟩=some (.slice C2 0 c2):=(blk_cell HW.out 2).trans rfl;clear HZ HK0 HK1 tok12 _t;have tok13:True:=trivial)|(have _t:=tok13;go_at_call 7;(with_reducible refine(eq_desk H3.out (Kd.S_reads' HS2.out).2.2 (Kd.S_reads' HS2.out).2.1 (Kd.R_reads' HR2.out).2.2 (Kd.R_reads' HR2.out).2.1 (Kd.S_reads' HS0.out).2.2 (Kd.S_reads' HS0.out).2.1 (Kd.R_reads' HR0.out).2.2 (Kd.R_reads' HR0.out).2.1).mono ?_);rintro e w' ⟨rfl,hb⟩;clear hx0 hx1 hx2 hz0 hz1 hz2 HS0 HR0 HS2 HR2 HX HW;have n0_:=zqm (below_step HB.out hb);have n1_:=zqm (Kd.S_below HS1.out hb);have n2_:=zqm (Kd.R_below HR1.out hb);have n3_:=zqm (blk_below HY.out hb);clear HB HS1 HR1 HY;have HB:=n0_;have HS1:=n1_;have HR1:=n2_;have HY:=n3_;clear n0_ n1_ n2_ n3_;have hy0:w'.cell? ⟨g5,0,none⟩=some (.slice B0 U.length b0):=(blk_cell HY.out 0).trans rfl;have hy1:w'.cell? ⟨g5,1,none⟩=some (.slice B1 N.length b1):=(blk_cell HY.out 1).trans rfl;have hy2:w'.cell? ⟨g5,2,none⟩=some (.slice B2 0 b2):=(blk_cell HY.out 2).trans rfl;clear hb;clear tok13 _t;have tok14:True:=trivial)|(have _t:=tok14;go_at_call 9;(with_reducible refine(held_desk H4.out (Kd.S_reads' HS1.out) (Kd.R_reads' HR1.out)).mono ?_);rintro e w' ⟨rfl,hb⟩;clear hy0 hy1 hy2;have n0_:=zqm (below_step HB.out hb);clear HB;have HB:=n0_;clear n0_;clear hb HS1 HR1 HY;clear tok14 _t;have tok15:True:=trivial))
  go_ret
  exact⟨rfl,zq75⟩
 |false=>
  go_enter Try.func3,Try.ntmps3
  go_wp2_with (first|(have _t:=tok1;go_at_call 5;(with_reducible refine(spec_DeskNew.calls 400 x _ _ _ _ _ H1.out).mono ?_);rintro e w' ⟨v0,v1,v2,rfl,hs,hr,h3,hb⟩;obtain⟨A0,a0,rfl⟩:=Kd.S_slice hs;obtain⟨A1,a1,rfl⟩:=Kd.R_slice hr;obtain⟨A2,a2,rfl⟩:=(show∃X x,v2= .slice X 0 x from Kd.R_slice h3);obtain⟨s1,hs1⟩: ∃s1,s1=w'.heap.size:=⟨_,rfl⟩;have HS0:=zqm (show Kd.S (Kd.slice 3 (Kd.int .i64)) 23 w' w.heap.size (fun k=>k<s1) (.slice A0 U.length a0) U from Kd.S_mono (Kd.S_bound hs) (fun k h=>by rw [hs1];exact h.2.2.1));have HR0:=zqm (show Kd.R (Kd.int .i64) 3 w' w.heap.size (fun k=>k<s1) (.slice A1 N.length a1) N from Kd.R_mono (Kd.R_bound hr) (fun k h=>by rw [hs1];exact h.2.2.1));have HZ:=zqm (show s1≤w'.heap.size from by rw [hs1];exact Nat.le_refl _);have n0_:=zqm (below_step HB.out hb);clear HB;have HB:=n0_;clear n0_;clear hs hr h3 hb hs1;clear tok1 _t;have tok2:True:=trivial)|(have _t:=tok2;(with_reducible refine gate_dst (N:=3) rfl ?_);refine box_event ?hg (N:=3) ?hd (cs:= #[.slice none 0 0,.slice none 0 0,.slice none 0 0]) (t:=28) ?hr ?_;(case hd=>rfl);(case hg=>rfl);(case hr=> exact zq6);intro g3 hg_ wb3 hbox hb;have HBo:=HB;have HZo:=HZ;have n0_:=zqm (below_step HB.out hb);have n1_:=zqm (Kd.S_below HS0.out hb);have n2_:=zqm (Kd.R_below HR0.out hb);have n3_:=zqm (Nat.le_trans HZ.out hb.size);clear HB HS0 HR0 HZ;have HB:=n0_;have HS0:=n1_;have HR0:=n2_;have HZ:=n3_;clear n0_ n1_ n2_ n3_;have HX:=zqm hbox;have HXW:=zqm (show w.heap.size≤g3 from zq76);have HXZ:=zqm (show _≤g3 from by rw [hg_];exact HZo.out);have HXL:=zqm (show g3<wb3.heap.size from blk_lt HX.out);clear HBo HZo hbox hb hg_;clear tok2 _t;have tok3:True:=trivial)|(have _t:=tok3;(with_reducible refine gate_store (t:=28) (p:=3) rfl ?_);have hc0_:wb3.cell? ⟨g3,0,none⟩=some (.slice none 0 0):=(blk_cell HX.out 0).trans rfl;have hf0_:=blk_frozen HX.out 0;have hc1_:wb3.cell? ⟨g3,1,none⟩=some (.slice none 0 0):=(blk_cell HX.out 1).trans rfl;have hf1_:=blk_frozen HX.out 1;have hc2_:wb3.cell? ⟨g3,2,none⟩=some (.slice none 0 0):=(blk_cell HX.out 2).trans rfl;have hf2_:=blk_frozen HX.out 2;refine store_event (t:=28) (p:=3) (v:=?vo_3) (w1:=((wb3.setCell ⟨g3,0,none⟩ (.slice A0 U.length a0)).setCell ⟨g3,1,none⟩ (.slice A1 N.length a1)).setCell ⟨g3,2,none⟩ (.slice A2 0 a2)) ?hg ?ho ?hn ?hr ?_;(case ho=>rfl);(case hg=>rfl);(case hn=>rfl);(case hr=> exact zq6);intro ws3 hw;clear hc0_ hc1_ hc2_ hf0_ hf1_ hf2_;have m_HS0:=zqm (show Kd.S (Kd.slice 3 (Kd.int .i64)) 23 ws3 w.heap.size (fun k=>k<s1) (.slice A0 U.length a0) U from zq36);clear HS0;have HS0:=m_HS0;clear m_HS0;have m_HR0:=zqm (show Kd.R (Kd.int .i64) 3 ws3 w.heap.size (fun k=>k<s1) (.slice A1 N.length a1) N from zq34);clear HR0;have HR0:=m_HR0;clear m_HR0;have n0_:=zqm ((by rw [hw];exact below_set (below_set (below_set HB.out HXW.out) HXW.out) HXW.out:Below w.heap.size w ws3));have n1_:=zqm ((by rw [hw];exact blk_put (blk_put (blk_put HX.out 0 _ rfl) 1 _ rfl) 2 _ rfl:ws3.heap[g3]? =some (.cells #[.slice A0 U.length a0,.slice A1 N.length a1,.slice A2 0 a2] 28 (0,0))));have n2_:=zqm ((by rw [hw];simpa [World.setCell] using HXL.out:g3<ws3.heap.size));clear HB HX HXL;have HB:=n0_;have HX:=n1_;have HXL:=n2_;clear n0_ n1_ n2_;clear hw;clear HZ tok3 _t;have tok4:True:=trivial)|(have _t:=tok4;go_at_call 6;(with_reducible refine(impl_DeskNew.calls x _ _ _ _ _ H2.out).mono ?_);rintro e w' ⟨v0,v1,v2,rfl,hs,hr,h3,hb⟩;obtain⟨B0,b0,rfl⟩:=Kd.S_slice hs;obtain⟨B1,b1,rfl⟩:=Kd.R_slice hr;obtain⟨B2,b2,rfl⟩:=(show∃X x,v2= .slice X 0 x from Kd.R_slice h3);obtain⟨e1,he1⟩: ∃e1,e1=ws3.heap.size:=⟨_,rfl⟩;obtain⟨e2,he2⟩: ∃e2,e2=w'.heap.size:=⟨_,rfl⟩;have HS1:=zqm (show Kd.S (Kd.slice 3 (Kd.int .i64)) 23 w' w.heap.size (fun k=>some k≠(Value.slice B1 N.length b1).ownBlock∧e1≤k∧k<e2) (.slice B0 U.length b0) U from Kd.S_lower (Kd.S_mono (Kd.S_bound hs) (fun k h=>by rw [he1,he2];exact⟨h.1,h.2.1,h.2.2.1⟩)) HB.out.size);have HR1:=zqm (show Kd.R (Kd.int .i64) 3 w' w.heap.size (fun k=>some k=(Value.slice B1 N.length b1).ownBlock∧e1≤k∧k<e2) (.slice B1 N.length b1) N from Kd.R_lower (Kd.R_mono (Kd.R_bound (Kd.R_tight rfl hr)) (fun k h=>by rw [he1,he2];exact⟨h.1,h.2.1,h.2.2.1⟩)) HB.out.size);have HXE:=zqm (show g3<e1 from by rw [he1];exact HXL.out);have HSE:=zqm (show s1≤e1 from by rw [he1];exact Nat.le_trans HXZ.out (Nat.le_of_lt HXL.out));have HEE:=zqm (show e1≤e2 from by rw [he1,he2];exact hb.size);have HZ:=zqm (show e2≤w'.heap.size from by rw [he2];exact Nat.le_refl _);have n0_:=zqm (below_step HB.out hb);have n1_:=zqm (Kd.S_below HS0.out hb);have n2_:=zqm (Kd.R_below HR0.out hb);have n3_:=zqm (blk_below HX.out hb);clear HB HS0 HR0 HX;have HB:=n0_;have HS0:=n1_;have HR0:=n2_;have HX:=n3_;clear n0_ n1_ n2_ n3_;clear hs hr h3 hb he1 he2 HXL;clear tok4 _t;have tok5:True:=trivial)|(have _t:=tok5;(with_reducible refine gate_dst (N:=5) rfl ?_);refine box_event ?hg (N:=5) ?hd (cs:= #[.slice none 0 0,.slice none 0 0,.slice none 0 0]) (t:=28) ?hr ?_;(case hd=>rfl);(case hg=>rfl);(case hr=> exact zq6);intro g5 hg_ wb5 hbox hb;have HBo:=HB;have HZo:=HZ;have n0_:=zqm (below_step HB.out hb);have n1_:=zqm (Kd.S_below HS0.out hb);have n2_:=zqm (Kd.R_below HR0.out hb);have n3_:=zqm (blk_below HX.out hb);have n4_:=zqm (Kd.S_below HS1.out hb);have n5_:=zqm (Kd.R_below HR1.out hb);have n6_:=zqm (Nat.le_trans HZ.out hb.size);clear HB HS0 HR0 HX HS1 HR1 HZ;have HB:=n0_;have HS0:=n1_;have HR0:=n2_;have HX:=n3_;have HS1:=n4_;have HR1:=n5_;have HZ:=n6_;clear n0_ n1_ n2_ n3_ n4_ n5_ n6_;have HY:=zqm hbox;have HYW:=zqm (show w.heap.size≤g5 from zq76);have HYZ:=zqm (show _≤g5 from by rw [hg_];exact HZo.out);have HYL:=zqm (show g5<wb5.heap.size from blk_lt HY.out);clear HBo HZo hbox hb hg_;have HNE:=zqm (show g3≠g5 from Nat.ne_of_lt (Nat.lt_of_lt_of_le HXE.out (Nat.le_trans HEE.out HYZ.out)));clear tok5 _t;have tok6:True:=trivial)|(have _t:=tok6;(with_reducible refine gate_store (t:=28) (p:=5) rfl ?_);have hc0_:wb5.cell? ⟨g5,0,none⟩=some (.slice none 0 0):=(blk_cell HY.out 0).trans rfl;have hf0_:=blk_frozen HY.out 0;have hc1_:wb5.cell? ⟨g5,1,none⟩=some (.slice none 0 0):=(blk_cell HY.out 1).trans rfl;have hf1_:=blk_frozen HY.out 1;have hc2_:wb5.cell? ⟨g5,2,none⟩=some (.slice none 0 0):=(blk_cell HY.out 2).trans rfl;have hf2_:=blk_frozen HY.out 2;refine store_event (t:=28) (p:=5) (v:=?vo_5) (w1:=((wb5.setCell ⟨g5,0,none⟩ (.slice B0 U.length b0)).setCell ⟨g5,1,none⟩ (.slice B1 N.length b1)).setCell ⟨g5,2,none⟩ (.slice B2 0 b2)) ?hg ?ho ?hn ?hr ?_;(case ho=>rfl);(case hg=>rfl);(case hn=>rfl);(case hr=> exact zq6);intro ws5 hw;clear hc0_ hc1_ hc2_ hf0_ hf1_ hf2_;have m_HS0:=zqm (show Kd.S (Kd.slice 3 (Kd.int .i64)) 23 ws5 w.heap.size (fun k=>k<s1) (.slice A0 U.length a0) U from zq21);clear HS0;have HS0:=m_HS0;clear m_HS0;have m_HR0:=zqm (show Kd.R (Kd.int .i64) 3 ws5 w.heap.size (fun k=>k<s1) (.slice A1 N.length a1) N from zq20);clear HR0;have HR0:=m_HR0;clear m_HR0;have m_HS1:=zqm (show Kd.S (Kd.slice 3 (Kd.int .i64)) 23 ws5 w.heap.size (fun k=>some k≠(Value.slice B1 N.length b1).ownBlock∧e1≤k∧k<e2) (.slice B0 U.length b0) U from zq33);clear HS1;have HS1:=m_HS1;clear m_HS1;have m_HR1:=zqm (show Kd.R (Kd.int .i64) 3 ws5 w.heap.size (fun k=>some k=(Value.slice B1 N.length b1).ownBlock∧e1≤k∧k<e2) (.slice B1 N.length b1) N from zq32);clear HR1;have HR1:=m_HR1;clear m_HR1;have n0_:=zqm ((by rw [hw];exact below_set (below_set (below_set HB.out HYW.out) HYW.out) HYW.out:Below w.heap.size w ws5));have n1_:=zqm ((by rw [hw];exact blk_put (blk_put (blk_put HY.out 0 _ rfl) 1 _ rfl) 2 _ rfl:ws5.heap[g5]? =some (.cells #[.slice B0 U.length b0,.slice B1 N.length b1,.slice B2 0 b2] 28 (0,0))));have n2_:=zqm ((by rw [hw];simpa [World.setCell] using HYL.out:g5<ws5.heap.size));have n3_:=zqm ((by rw [hw];exact blk_far (blk_far (blk_far HX.out HNE.out _) HNE.out _) HNE.out _:ws5.heap[g3]? =some (.cells #[.slice A0 U.length a0,.slice A1 N.length a1,.slice A2 0 a2] 28 (0,0))));clear HB HY HYL HX;have HB:=n0_;have HY:=n1_;have HYL:=n2_;have HX:=n3_;clear n0_ n1_ n2_ n3_;clear hw;have hx0:ws5.cell? ⟨g3,0,none⟩=some (.slice A0 U.length a0):=(blk_cell HX.out 0).trans rfl;have hx1:ws5.cell? ⟨g3,1,none⟩=some (.slice A1 N.length a1):=(blk_cell HX.out 1).trans rfl;have hx2:ws5.cell? ⟨g3,2,none⟩=some (.slice A2 0 a2):=(blk_cell HX.out 2).trans rfl;have hy0:ws5.cell? ⟨g5,0,none⟩=some (.slice B0 U.length b0):=(blk_cell HY.out 0).trans rfl;have hy1:ws5.cell? ⟨g5,1,none⟩=some (.slice B1 N.length b1):=(blk_cell HY.out 1).trans rfl;have hy2:ws5.cell? ⟨g5,2,none⟩=some (.slice B2 0 b2):=(blk_cell HY.out 2).trans rfl;have HDJ:=zqm (show∀k,(fun k=>some k=(Value.slice B1 N.length b1).ownBlock∧e1≤k∧k<e2) k→ ¬(fun k=>some k≠(Value.slice B1 N.length b1).ownBlock∧e1≤k∧k<e2) k from fun k h1 h2=>h2.1 h1.1);clear HZ tok6 _t;have tok7:True:=trivial)|(have _t:=tok7;go_at_call 7;(with_reducible refine(eq_desk H3.out (Kd.S_reads' HS1.out).2.2 (Kd.S_reads' HS1.out).2.1 (Kd.R_reads' HR1.out).2.2 (Kd.R_reads' HR1.out).2.1 (Kd.S_reads' HS0.out).2.2 (Kd.S_reads' HS0.out).2.1 (Kd.R_reads' HR0.out).2.2 (Kd.R_reads' HR0.out).2.1).mono ?_);rintro e w' ⟨rfl,hb⟩;clear hx0 hx1 hx2 hy0 hy1 hy2;have n0_:=zqm (below_step HB.out hb);have n1_:=zqm (Kd.S_below HS0.out hb);have n2_:=zqm (Kd.R_below HR0.out hb);have n3_:=zqm (blk_below HX.out hb);have n4_:=zqm (Kd.S_below HS1.out hb);have n5_:=zqm (Kd.R_below HR1.out hb);have n6_:=zqm (blk_below HY.out hb);clear HB HS0 HR0 HX HS1 HR1 HY;have HB:=n0_;have HS0:=n1_;have HR0:=n2_;have HX:=n3_;have HS1:=n4_;have HR1:=n5_;have HY:=n6_;clear n0_ n1_ n2_ n3_ n4_ n5_ n6_;have hx0:w'.cell? ⟨g3,0,none⟩=some (.slice A0 U.length a0):=(blk_cell HX.out 0).trans rfl;have hx1:w'.cell? ⟨g3,1,none⟩=some (.slice A1 N.length a1):=(blk_cell HX.out 1).trans rfl;have hx2:w'.cell? ⟨g3,2,none⟩=some (.slice A2 0 a2):=(blk_cell HX.out 2).trans rfl;have hy0:w'.cell? ⟨g5,0,none⟩=some (.slice B0 U.length b0):=(blk_cell HY.out 0).trans rfl;have hy1:w'.cell? ⟨g5,1,none⟩=some (.slice B1 N.length b1):=(blk_cell HY.out 1).trans rfl;have hy2:w'.cell? ⟨g5,2,none⟩=some (.slice B2 0 b2):=(blk_cell HY.out 2).trans rfl;clear hb;clear tok7 _t;have tok8:True:=trivial)|(have _t:=tok8;go_at_call 8;(with_reducible refine(markDesk_calls U N 1 (fun k=>some k≠(Value.slice B1 N.length b1).ownBlock∧e1≤k∧k<e2) (fun k=>some k=(Value.slice B1 N.length b1).ownBlock∧e1≤k∧k<e2) B0 b0 B1 b1 B2 b2 w _ HB.out HS1.out HR1.out HDJ.out (by omega) (by omega) HL.out.1 HL.out.2.1 HL.out.2.2).mono ?_);rintro e w' ⟨he,hs,hr,hb,hk⟩;rw [HM.out] at he;subst he;clear hx0 hx1 hx2 hy0 hy1 hy2;have n0_:=zqm (hb);have n1_:=zqm (hs);have n2_:=zqm (hr);have n3_:=zqm (Kd.S_kept HS0.out hk (fun k h h2=>by have:=HSE.out;rcases h2 with h2|h2 <;> omega));have n4_:=zqm (Kd.R_kept HR0.out hk (fun k h h2=>by have:=HSE.out;rcases h2 with h2|h2 <;> omega));have n5_:=zqm (blk_kept HX.out hk (fun h2=>by have:=HXE.out;rcases h2 with h2|h2 <;> omega));have n6_:=zqm (blk_kept HY.out hk (fun h2=>by have:=HYZ.out;rcases h2 with h2|h2 <;> omega));clear HS0 HR0 HX HY;have HBn:=n0_;have HS1n:=n1_;have HR1n:=n2_;have HS0:=n3_;have HR0:=n4_;have HX:=n5_;have HY:=n6_;clear n0_ n1_ n2_ n3_ n4_ n5_ n6_;clear HB HS1 HR1 hs hr hb hk;have HB:=HBn;have HS1:=HS1n;have HR1:=HR1n;clear HBn HS1n HR1n;have hx0:w'.cell? ⟨g3,0,none⟩=some (.slice A0 U.length a0):=(blk_cell HX.out 0).trans rfl;have hx1:w'.cell? ⟨g3,1,none⟩=some (.slice A1 N.length a1):=(blk_cell HX.out 1).trans rfl;have hx2:w'.cell? ⟨g3,2,none⟩=some (.slice A2 0 a2):=(blk_cell HX.out 2).trans rfl;have hy0:w'.cell? ⟨g5,0,none⟩=some (.slice B0 U.length b0):=(blk_cell HY.out 0).trans rfl;have hy1:w'.cell? ⟨g5,1,none⟩=some (.slice B1 N.length b1):=(blk_cell HY.out 1).trans rfl;have hy2:w'.cell? ⟨g5,2,none⟩=some (.slice B2 0 b2):=(blk_cell HY.out 2).trans rfl;clear tok8 _t;have tok9:True:=trivial)|(have _t:=tok9;go_at_call 9;(with_reducible refine(held_desk H4.out (Kd.S_reads' HS1.out) (Kd.R_reads' HR1.out)).mono ?_);rintro e w' ⟨rfl,hb⟩;clear hx0 hx1 hx2 hy0 hy1 hy2;have n0_:=zqm (below_step HB.out hb);have n1_:=zqm (Kd.S_below HS0.out hb);have n2_:=zqm (Kd.R_below HR0.out hb);have n3_:=zqm (blk_below HX.out hb);have n4_:=zqm (Kd.S_below HS1.out hb);have n5_:=zqm (Kd.R_below HR1.out hb);have n6_:=zqm (blk_below HY.out hb);clear HB HS0 HR0 HX HS1 HR1 HY;have HB:=n0_;have HS0:=n1_;have HR0:=n2_;have HX:=n3_;have HS1:=n4_;have HR1:=n5_;have HY:=n6_;clear n0_ n1_ n2_ n3_ n4_ n5_ n6_;clear hb;have hx0:w'.cell? ⟨g3,0,none⟩=some (.slice A0 U.length a0):=(blk_cell HX.out 0).trans rfl;have hx1:w'.cell? ⟨g3,1,none⟩=some (.slice A1 N.length a1):=(blk_cell HX.out 1).trans rfl;have hx2:w'.cell? ⟨g3,2,none⟩=some (.slice A2 0 a2):=(blk_cell HX.out 2).trans rfl;have hy0:w'.cell? ⟨g5,0,none⟩=some (.slice B0 U.length b0):=(blk_cell HY.out 0).trans rfl;have hy1:w'.cell? ⟨g5,1,none⟩=some (.slice B1 N.length b1):=(blk_cell HY.out 1).trans rfl;have hy2:w'.cell? ⟨g5,2,none⟩=some (.slice B2 0 b2):=(blk_cell HY.out 2).trans rfl;clear tok9 _t;have tok10:True:=trivial)|(have _t:=tok10;go_at_call 6;(with_reducible refine(impl_DeskNew.calls x _ _ _ _ _ H2.out).mono ?_);rintro e w' ⟨v0,v1,v2,rfl,hs,hr,h3,hb⟩;obtain⟨C0,c0,rfl⟩:=Kd.S_slice hs;obtain⟨C1,c1,rfl⟩:=Kd.R_slice hr;obtain⟨C2,c2,rfl⟩:=(show∃X x,v2= .slice X 0 x from Kd.R_slice h3);obtain⟨e3,he3⟩: ∃e3,e3=w'.heap.size:=⟨_,rfl⟩;have HS2:=zqm (show Kd.S (Kd.slice 3 (Kd.int .i64)) 23 w' w.heap.size (fun k=>k<e3) (.slice C0 U.length c0) U from Kd.S_lower (Kd.S_mono (Kd.S_bound hs) (fun k h=>by rw [he3];exact h.2.2.1)) HB.out.size);have HR2:=zqm (show Kd.R (Kd.int .i64) 3 w' w.heap.size (fun k=>k<e3) (.slice C1 N.length c1) N from Kd.R_lower (Kd.R_mono (Kd.R_bound hr) (fun k h=>by rw [he3];exact h.2.2.1)) HB.out.size);have HYE:=zqm (show g5<e3 from by rw [he3];exact Nat.lt_of_lt_of_le (blk_lt HY.out) hb.size);have HZ:=zqm (show e3≤w'.heap.size from by rw [he3];exact Nat.le_refl _);clear hx0 hx1 hx2 hy0 hy1 hy2;have n0_:=zqm (below_step HB.out hb);have n1_:=zqm (Kd.S_below HS0.out hb);have n2_:=zqm (Kd.R_below HR0.out hb);have n3_:=zqm (blk_below HX.out hb);have n4_:=zqm (Kd.S_below HS1.out hb);have n5_:=zqm (Kd.R_below HR1.out hb);have n6_:=zqm (blk_below HY.out hb);clear HB HS0 HR0 HX HS1 HR1 HY;have HB:=n0_;have HS0:=n1_;have HR0:=n2_;have HX:=n3_;have HS1:=n4_;have HR1:=n5_;have HY:=n6_;clear n0_ n1_ n2_ n3_ n4_ n5_ n6_;clear hs hr h3 hb he3;clear tok10 _t;have tok11:True:=trivial)|(have _t:=tok11;(with_reducible refine gate_dst (N:=9) rfl ?_);refine box_event ?hg (N:=9) ?hd (cs:= #[.slice none 0 0,.slice none 0 0,.slice none 0 0]) (t:=28) ?hr ?_;(case hd=>rfl);(case hg=>rfl);(case hr=> exact zq6);intro g9 hg_ wb9 hbox hb;have HBo:=HB;have HZo:=HZ;have n0_:=zqm (below_step HB.out hb);have n1_:=zqm (Kd.S_below HS0.out hb);have n2_:=zqm (Kd.R_below HR0.out hb);have n3_:=zqm (blk_below HX.out hb);have n4_:=zqm (Kd.S_below HS1.out hb);have n5_:=zqm (Kd.R_below HR1.out hb);have n6_:=zqm (blk_below HY.out hb);have n7_:=zqm (Kd.S_below HS2.out hb);have n8_:=zqm (Kd.R_below HR2.out hb);have n9_:=zqm (Nat.le_trans HZ.out hb.size);clear HB HS0 HR0 HX HS1 HR1 HY HS2 HR2 HZ;have HB:=n0_;have HS0:=n1_;have HR0:=n2_;have HX:=n3_;have HS1:=n4_;have HR1:=n5_;have HY:=n6_;have HS2:=n7_;have HR2:=n8_;have HZ:=n9_;clear n0_ n1_ n2_ n3_ n4_ n5_ n6_ n7_ n8_ n9_;have HW:=zqm hbox;have HWW:=zqm (show w.heap.size≤g9 from zq76);have HWZ:=zqm (show _≤g9 from by rw [hg_];exact HZo.out);have HWL:=zqm (show g9<wb9.heap.size from blk_lt HW.out);clear HBo HZo hbox hb hg_;have HNF:=zqm (show g3≠g9 from Nat.ne_of_lt zq78);have HNG:=zqm (show g5≠g9 from Nat.ne_of_lt (Nat.lt_of_lt_of_le HYE.out HWZ.out));clear tok11 _t;have tok12:True:=trivial)|(have _t:=tok12;have HK0:=zqm (show∀k,k<s1→k≠g9 from fun k hk=>Nat.ne_of_lt zq77);have HK1:=zqm (show∀k,k<e2→k≠g9 from fun k hk=>Nat.ne_of_lt (by have:=HYZ.out;have:=HYE.out;have:=HWZ.out;omega));(with_reducible refine gate_store (t:=28) (p:=9) rfl ?_);have hc0_:wb9.cell? ⟨g9,0,none⟩=some (.slice none 0 0):=(blk_cell HW.out 0).trans rfl;have hf0_:=blk_frozen HW.out 0;have hc1_:wb9.cell? ⟨g9,1,none⟩=some (.slice none 0 0):=(blk_cell HW.out 1).trans rfl;have hf1_:=blk_frozen HW.out 1;have hc2_:wb9.cell? ⟨g9,2,none⟩=some (.slice none 0 0):=(blk_cell HW.out 2).trans rfl;have hf2_:=blk_frozen HW.out 2;refine store_event (t:=28) (p:=9) (v:=?vo_9) (w1:=((wb9.setCell ⟨g9,0,none⟩ (.slice C0 U.length c0)).setCell ⟨g9,1,none⟩ (.slice C1 N.length c1)).setCell ⟨g9,2,none⟩ (.slice C2 0 c2)) ?hg ?ho ?hn ?hr ?_;(case ho=>rfl);(case hg=>rfl);(case hn=>rfl);(case hr=> exact zq6);intro ws9 hw;clear hc0_ hc1_ hc2_ hf0_ hf1_ hf2_;have m_HS0:=zqm (show Kd.S (Kd.slice 3 (Kd.int .i64)) 23 ws9 w.heap.size (fun k=>k<s1) (.slice A0 U.length a0) U from zq68);clear HS0;have HS0:=m_HS0;clear m_HS0;have m_HR0:=zqm (show Kd.R (Kd.int .i64) 3 ws9 w.heap.size (fun k=>k<s1) (.slice A1 N.length a1) N from zq67);clear HR0;have HR0:=m_HR0;clear m_HR0;have m_HS1:=zqm (show Kd.S (Kd.slice 3 (Kd.int .i64)) 23 ws9 w.heap.size (fun k=>some k≠(Value.slice B1 N.length b1).ownBlock∧e1≤k∧k<e2) (.slice B0 U.length b0) (markR U 1) from zq53);clear HS1;have HS1:=m_HS1;clear m_HS1;have m_HR1:=zqm (show Kd.R (Kd.int .i64) 3 ws9 w.heap.size (fun k=>some k=(Value.slice B1 N.length b1).ownBlock∧e1≤k∧k<e2) (.slice B1 N.length b1) (numL (1+lenSum U) N.length) from zq52);clear HR1;have HR1:=m_HR1;clear m_HR1;have m_HS2:=zqm (show Kd.S (Kd.slice 3 (Kd.int .i64)) 23 ws9 w.heap.size (fun k=>k<e3) (.slice C0 U.length c0) U from zq37);clear HS2;have HS2:=m_HS2;clear m_HS2;have m_HR2:=zqm (show Kd.R (Kd.int .i64) 3 ws9 w.heap.size (fun k=>k<e3) (.slice C1 N.length c1) N from zq35);clear HR2;have HR2:=m_HR2;clear m_HR2;have n0_:=zqm ((by rw [hw];exact below_set (below_set (below_set HB.out HWW.out) HWW.out) HWW.out:Below w.heap.size w ws9));have n1_:=zqm ((by rw [hw];exact blk_put (blk_put (blk_put HW.out 0 _ rfl) 1 _ rfl) 2 _ rfl:ws9.heap[g9]? =some (.cells #[.slice C0 U.length c0,.slice C1 N.length c1,.slice C2 0 c2] 28 (0,0))));have n2_:=zqm ((by rw [hw];simpa [World.setCell] using HWL.out:g9<ws9.heap.size));have n3_:=zqm ((by rw [hw];exact blk_far (blk_far (blk_far HX.out HNF.out _) HNF.out _) HNF.out _:ws9.heap[g3]? =some (.cells #[.slice A0 U.length a0,.slice A1 N.length a1,.slice A2 0 a2] 28 (0,0))));have n4_:=zqm ((by rw [hw];exact blk_far (blk_far (blk_far HY.out HNG.out _) HNG.out _) HNG.out _:ws9.heap[g5]? =some (.cells #[.slice B0 U.length b0,.slice B1 N.length b1,.slice B2 0 b2] 28 (0,0))));clear HB HW HWL HX HY;have HB:=n0_;have HW:=n1_;have HWL:=n2_;have HX:=n3_;have HY:=n4_;clear n0_ n1_ n2_ n3_ n4_;clear hw;have hx0:ws9.cell? ⟨g3,0,none⟩=some (.slice A0 U.length a0):=(blk_cell HX.out 0).trans rfl;have hx1:ws9.cell? ⟨g3,1,none⟩=some (.slice A1 N.length a1):=(blk_cell HX.out 1).trans rfl;have hx2:ws9.cell? ⟨g3,2,none⟩=some (.slice A2 0 a2):=(blk_cell HX.out 2).trans rfl;have hz0:ws9.cell? ⟨g9,0,none⟩=some (.slice C0 U.length c0):=(blk_cell HW.out 0).trans rfl;have hz1:ws9.cell? ⟨g9,1,none⟩=some (.slice C1 N.length c1):=(blk_cell HW.out 1).trans rfl;have hz2:ws9.cell? ⟨g9,2,none⟩=some (.slice C2 0 c2):=(blk_cell HW.out 2).trans rfl;clear HZ HK0 HK1 tok12 _t;have tok13:True:=trivial)|(have _t:=tok13;go_at_call 7;(with_reducible refine(eq_desk H3.out (Kd.S_reads' HS2.out).2.2 (Kd.S_reads' HS2.out).2.1 (Kd.R_reads' HR2.out).2.2 (Kd.R_reads' HR2.out).2.1 (Kd.S_reads' HS0.out).2.2 (Kd.S_reads' HS0.out).2.1 (Kd.R_reads' HR0.out).2.2 (Kd.R_reads' HR0.out).2.1).mono ?_);rintro e w' ⟨rfl,hb⟩;clear hx0 hx1 hx2 hz0 hz1 hz2 HS0 HR0 HS2 HR2 HX HW;have n0_:=zqm (below_step HB.out hb);have n1_:=zqm (Kd.S_below HS1.out hb);have n2_:=zqm (Kd.R_below HR1.out hb);have n3_:=zqm (blk_below HY.out hb);clear HB HS1 HR1 HY;have HB:=n0_;have HS1:=n1_;have HR1:=n2_;have HY:=n3_;clear n0_ n1_ n2_ n3_;have hy0:w'.cell? ⟨g5,0,none⟩=some (.slice B0 U.length b0):=(blk_cell HY.out 0).trans rfl;have hy1:w'.cell? ⟨g5,1,none⟩=some (.slice B1 N.length b1):=(blk_cell HY.out 1).trans rfl;have hy2:w'.cell? ⟨g5,2,none⟩=some (.slice B2 0 b2):=(blk_cell HY.out 2).trans rfl;clear hb;clear tok13 _t;have tok14:True:=trivial)|(have _t:=tok14;go_at_call 9;(with_reducible refine(held_desk H4.out (Kd.S_reads' HS1.out) (Kd.R_reads' HR1.out)).mono ?_);rintro e w' ⟨rfl,hb⟩;clear hy0 hy1 hy2;have n0_:=zqm (below_step HB.out hb);clear HB;have HB:=n0_;clear n0_;clear hb HS1 HR1 HY;clear tok14 _t;have tok15:True:=trivial))
  go_ret
  exact⟨rfl,zq75⟩
end Go.Proofs.Ytndbbbnofmlkdaa.Print
end
