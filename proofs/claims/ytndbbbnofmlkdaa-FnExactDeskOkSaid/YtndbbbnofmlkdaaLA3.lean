/- Part 3 of what is common to several claims of this seat: DkL. -/
import Derived.Test.YtndbbbnofmlkdaaLA2
import Derived.Below
import Derived.Deep.Draws
import Derived.Deep.AppendLies
import Derived.Maps.AppendAt
import Derived.OwnWalk
import Derived.Laws.BytesArg
import Derived.Laws.MakeOwn
import Derived.Laws.OwnMore
import Derived.Deep.OwnRows
import Derived.Tactics
import Derived.Lib.ConvBytes
import Derived.Laws.Slices
import Derived.WalkKit
import Derived.KernelRfl
import Derived.RowKit3
import Derived.Deep.LoopGhost
import Derived.Deep.QuietTactic
import Derived.BigQuiet
import Derived.WideLaws
import Derived.Deep.DeepCutAuto
import Derived.Deep.CutBlock
import Derived.Deep.RegionHeld3
import Derived.Laws.Rows
import Derived.Lib.AppendStr
import Derived.ArgAppend
import Derived.Laws.IdiomCopy
import Derived.RowKit
import Derived.OrdersHeld
import Derived.Laws.BitsLemmas
import Derived.Test.YtndbbbnofmlkdaaProg
set_option linter.all false
section
namespace Go.Proofs.Ytndbbbnofmlkdaa
section
variable {p : Prop}
open Go.RowKit Go.Proofs.YtndbbbnofmlkdaaW.PrintWords Go.Proofs.YtndbbbnofmlkdaaW.PrintLast
theorem zqm {p : Prop} (h : p) : Aside0 p := Aside0.mk h
theorem zqp {P : Program} {ops : Array Oper} {Q : Exit → Act → World → Prop} {md : Region.Mode} {S : World → Prop} {ds : List Nat} {T : Bool × List (List Nat × List Nat)} {oi : Oper} {v : Value} {fuel : Nat} {l : Array Bool} {a a' : Act} {w : World} (i n : Nat) (l' : Array Bool) (HT : Aside0 (rtab md ops = T)) (h : wpAnyLast P md ops Q S ds fuel l' a' w) (hi : ops[i]? = some oi := by exact rfl) (hN : oi.dst = some n := by exact rfl) (hc : anyT T l.toList l'.toList i = true := by kernel_rfl) (hQ : ∀ c a w, Q (.panic c) (a.put oi.dst v) w → Q (.panic c) a w := by exact fun _ _ _ h => h) (hw : Region.wanted oi (yielded ops a.tmps) = true := by rfl) (hr : ∀ w', (execOp a.eval oi).run P w' = .ok (.value v) w' := by intro w'; go_simp; with_reducible rfl) (ha : a.put (some n) v = a' := by simp only [Act.put, List.setIfInBounds_toArray, List.set_cons_zero, List.set_cons_succ, i64_w, i32_w]; rfl) : wpAnyLast P md ops Q S ds (fuel + 1) l a w :=
  pure_ l' hi hN (any_of HT.out hc) hQ (Or.inl ⟨hw, hr⟩) ha h
theorem zqw {P : Program} {ops : Array Oper} {Q : Exit → Act → World → Prop} {md : Region.Mode} {S : World → Prop} {ds : List Nat} {T : Bool × List (List Nat × List Nat)} {oi : Oper} {v : Value} {fuel : Nat} {l : Array Bool} {a a' : Act} {w : World} (i n : Nat) (l' : Array Bool) (HT : Aside0 (rtab md ops = T)) {B : List Nat} (HW : Aside0 (waitsOk T.2 B = true)) (hS : S w) (h : wpAnyLast P md ops Q S ds fuel l' a' w) (hi : ops[i]? = some oi := by exact rfl) (hN : oi.dst = some n := by exact rfl) (hc : takeW T B ds l.toList l'.toList i = true := by kernel_rfl) (hQ : ∀ c a w, Q (.panic c) (a.put oi.dst v) w → Q (.panic c) a w := by exact fun _ _ _ h => h) (hw : Region.wanted oi (yielded ops a.tmps) = true := by rfl) (hr : ∀ w', S w' → (execOp a.eval oi).run P w' = .ok (.value v) w' := by intro w' hs_; (repeat obtain ⟨_, hs_⟩ := hs_); go_simp; with_reducible rfl) (ha : a.put (some n) v = a' := by simp only [Act.put, List.setIfInBounds_toArray, List.set_cons_zero, List.set_cons_succ, i64_w, i32_w]; rfl) : wpAnyLast P md ops Q S ds (fuel + 1) l a w :=
  take_ l' hi hN (take_ofW HT.out HW.out hc) hQ (Or.inl ⟨hw, hr⟩) hS ha h
theorem zqe {p q : Prop} (a : p) (h : p → q := by intro h_; (with_reducible repeat (first | refine blk_drewN ?_ _ | refine blk_drew ?_ | refine blk_alloc ?_ _)); exact h_) : q := h a
theorem zqfS {p q : Prop} (a : p) (h : p → q := by intro h_; (with_reducible repeat (first | apply Kd.S_alloc | apply Kd.S_drewN | apply Kd.S_drew)); exact h_) : q := h a
theorem zqfR {p q : Prop} (a : p) (h : p → q := by intro h_; (with_reducible repeat (first | apply Kd.R_alloc | apply Kd.R_drewN | apply Kd.R_drew)); exact h_) : q := h a
theorem zqy {α : Type} {y z : α} {P Q : Prop} (h : y = z) (H : P) (k : y = z → P → Q := by intro h H; first | (rw [h]; with_reducible exact H) | (have hv := (Option.bind_some _ _).symm.trans H; rw [h]; with_reducible exact hv) | (have hv := (Option.bind_some _ _).symm.trans H; with_reducible exact hv) | with_reducible exact H | (rw [h]; exact H) | exact H) : Q := k h H
def zqb (n k : Nat) : Array Bool := ((List.range n).map fun i => Nat.testBit k i).toArray
theorem zqk (h:p:=by kernel_rfl):p:=h
theorem zqo [Decidable p] (h:decide p=true:=by first|(with_reducible assumption)|assumption):p:=of_decide_eq_true h
theorem zqs {p : Prop} (h : p := by simp only [Act.put, List.setIfInBounds_toArray, List.set_cons_zero, List.set_cons_succ, i64_w, i32_w]; rfl) : p := h
theorem zqt {p : Prop} (h : p := by intro w'; go_simp; with_reducible rfl) : p := h
theorem zq0 (h:p:=by repeat(first|(with_reducible first|exact HB.out|apply below_alloc|apply pw_below_drewN|apply below_drew1)|exact HB.out)):p:=h
theorem zq1 (h:p:=by (try simp only [List.map_toArray,List.map_cons,List.map_nil]);first|done|rfl|(simp only [List.length_drop,List.length_take];rfl)):p:=h
theorem zq2 (h:p:=by repeat(first|(with_reducible first|exact HB.out|apply below_alloc|apply pw_below_drewN|apply below_drew1|refine below_set ?_ a6.out)|exact HB.out)):p:=h
theorem zq3 (h:p:=by first|rfl|(simp;done)|(simp [*];done)):p:=h
theorem zq4 (h:p:=by repeat(first|exact Drawn0.refl _|apply Drawn0.step)):p:=h
theorem zq5 (h:p:=by repeat(first|(with_reducible first|exact HB.out|apply below_alloc|apply pw_below_drewN|apply below_drew1|refine below_set ?_ a5.out)|exact HB.out)):p:=h
theorem zq6 (h:p:=by first|rfl|(simp [errW_none,errW_some] <;> rfl)|(simp [*,errW_none,errW_some] <;> rfl)):p:=h
theorem zq7 (h:p:=by repeat(first|(with_reducible first|exact HB.out|apply below_alloc|apply pw_below_drewN|apply below_drew1|refine below_set ?_ a4.out)|exact HB.out)):p:=h
theorem zq8 (h:p:=by repeat(first|(with_reducible first|exact HB.out|apply below_alloc|apply pw_below_drewN|apply below_drew1|refine below_set ?_ a6.out|refine below_set ?_ b7.out)|exact HB.out)):p:=h
theorem zq9 (h:p:=by repeat(first|exact(Kd.C_below a6.out HB.out)|(with_reducible refine Kd.C_alloc ?_ _)|(with_reducible refine Kd.C_drewN ?_ _)|(with_reducible refine Kd.C_drew ?_))):p:=h
theorem zq10 (h:p:=by repeat(first|exact(Kd.C_below d6.out HB.out)|(with_reducible refine Kd.C_alloc ?_ _)|(with_reducible refine Kd.C_drewN ?_ _)|(with_reducible refine Kd.C_drew ?_))):p:=h
theorem zq11 (h:p:=by repeat(first|exact(Kd.C_below d7.out HB.out)|(with_reducible refine Kd.C_alloc ?_ _)|(with_reducible refine Kd.C_drewN ?_ _)|(with_reducible refine Kd.C_drew ?_))):p:=h
theorem zq12 (h:p:=by repeat(first|exact(Kd.C_below d5.out HB.out)|(with_reducible refine Kd.C_alloc ?_ _)|(with_reducible refine Kd.C_drewN ?_ _)|(with_reducible refine Kd.C_drew ?_))):p:=h
theorem zq13 (h:p:=by first|(go_simp;done)|(go_simp;rfl)):p:=h
theorem zq14 (h:p:=by repeat(first|(with_reducible first|exact HB.out|apply below_alloc|apply pw_below_drewN|apply below_drew1|refine below_set ?_ a6.out|refine below_set ?_ b2.out|refine below_set ?_ b6.out)|exact HB.out)):p:=h
theorem zq15 (h:p:=by repeat(first|(with_reducible first|exact HB.out|apply below_alloc|apply pw_below_drewN|apply below_drew1|refine below_set ?_ a4.out|refine below_set ?_ a5.out)|exact HB.out)):p:=h
theorem zq16 (h:p:=by repeat(first|(with_reducible first|exact HB.out|apply below_alloc|apply pw_below_drewN|apply below_drew1|refine below_set ?_ a3.out)|exact HB.out)):p:=h
theorem zq17 (h:p:=by repeat(first|(with_reducible first|exact HB.out|apply below_alloc|apply pw_below_drewN|apply below_drew1|refine below_set ?_ a3.out|refine below_set ?_ a8.out)|exact HB.out)):p:=h
theorem zq18 (h:p:=by repeat(first|(with_reducible first|exact HB.out|apply below_alloc|apply pw_below_drewN|apply below_drew1|refine below_set ?_ a6.out|refine below_set ?_ a8.out|refine below_set ?_ b1.out)|exact HB.out)):p:=h
theorem zq19 (h:p:=by repeat(first|exact(Kd.C_below b3.out HB.out)|(with_reducible refine Kd.C_alloc ?_ _)|(with_reducible refine Kd.C_drewN ?_ _)|(with_reducible refine Kd.C_drew ?_))):p:=h
theorem zq20 (h:p:=by repeat(first|exact a5.out|(with_reducible refine Kd.C_alloc ?_ _)|(with_reducible refine Kd.C_drewN ?_ _)|(with_reducible refine Kd.C_drew ?_))):p:=h
theorem zq21 (h:p:=by repeat(first|exact a3.out|(with_reducible refine Kd.C_alloc ?_ _)|(with_reducible refine Kd.C_drewN ?_ _)|(with_reducible refine Kd.C_drew ?_))):p:=h
theorem zq22 (h:p:=by repeat(first|exact a4.out|(with_reducible refine Kd.C_alloc ?_ _)|(with_reducible refine Kd.C_drewN ?_ _)|(with_reducible refine Kd.C_drew ?_))):p:=h
theorem zq23 (h:p:=by repeat(first|exact(Kd.C_below a8.out HB.out)|(with_reducible refine Kd.C_alloc ?_ _)|(with_reducible refine Kd.C_drewN ?_ _)|(with_reducible refine Kd.C_drew ?_))):p:=h
theorem zq24 (h:p:=by (repeat(first|exact HB7.out|exact HBr.out|apply below_alloc))):p:=h
theorem zq25 (h:p:=by repeat(first|exact(Kd.C_below c0.out (by repeat(first|(with_reducible first|exact HB.out|apply below_alloc|apply pw_below_drewN|apply below_drew1|refine below_set ?_ a3.out|refine below_set ?_ a8.out)|exact HB.out)))|(with_reducible refine Kd.C_alloc ?_ _)|(with_reducible refine Kd.C_drewN ?_ _)|(with_reducible refine Kd.C_drew ?_))):p:=h
theorem zq26 (h:p:=by repeat(first|exact(Kd.C_below c1.out (by repeat(first|(with_reducible first|exact HB.out|apply below_alloc|apply pw_below_drewN|apply below_drew1|refine below_set ?_ a3.out|refine below_set ?_ a8.out)|exact HB.out)))|(with_reducible refine Kd.C_alloc ?_ _)|(with_reducible refine Kd.C_drewN ?_ _)|(with_reducible refine Kd.C_drew ?_))):p:=h
theorem zq27 (h:p:=by repeat(first|exact(Kd.C_below b4.out HB.out)|(with_reducible refine Kd.C_alloc ?_ _)|(with_reducible refine Kd.C_drewN ?_ _)|(with_reducible refine Kd.C_drew ?_))):p:=h
theorem zq28 (h:p:=by repeat(first|exact(Kd.C_below b9.out HB.out)|(with_reducible refine Kd.C_alloc ?_ _)|(with_reducible refine Kd.C_drewN ?_ _)|(with_reducible refine Kd.C_drew ?_))):p:=h
theorem zq29 (h:p:=by repeat(first|exact(Kd.C_below b1.out (by repeat(first|(with_reducible first|exact HB.out|apply below_alloc|apply pw_below_drewN|apply below_drew1|refine below_set ?_ a4.out)|exact HB.out)))|(with_reducible refine Kd.C_alloc ?_ _)|(with_reducible refine Kd.C_drewN ?_ _)|(with_reducible refine Kd.C_drew ?_))):p:=h
theorem zq30 (h:p:=by refine zqfR ?_;exact(Kd.R_mono (Kd.R_far (p:=⟨a1,2,none⟩) (Kd.R_far (p:=⟨a1,1,none⟩) (Kd.R_far (p:=⟨a1,0,none⟩) (Kd.R_types a8.out a2.out (by decide)) (fun _ hk=>hk.2) (.slice c5 a9.length c0)) (fun _ hk=>hk.2) (.slice c6 b0.length c1)) (fun _ hk=>hk.2) (.slice d8 b3.length d0)) (fun _ h_=>h_.1))):p:=h
theorem zq31 (h:p:=by refine zqfR ?_;exact(Kd.R_mono (Kd.R_far (p:=⟨a1,2,none⟩) (Kd.R_far (p:=⟨a1,1,none⟩) (Kd.R_far (p:=⟨a1,0,none⟩) (Kd.R_types a8.out a2.out (by decide)) (fun _ hk=>hk.2) (.slice c7 a9.length c2)) (fun _ hk=>hk.2) (.slice c8 b0.length c4)) (fun _ hk=>hk.2) (.slice d9 b3.length d1)) (fun _ h_=>h_.1))):p:=h
theorem zq32 (h:p:=by refine zqfR ?_;exact(Kd.R_mono (Kd.R_far (p:=⟨a1,2,none⟩) (Kd.R_far (p:=⟨a1,1,none⟩) (Kd.R_far (p:=⟨a1,0,none⟩) (Kd.R_types a8.out a2.out (by decide)) (fun _ hk=>hk.2) (.slice e3 a9.length e0)) (fun _ hk=>hk.2) (.slice e4 b0.length e1)) (fun _ hk=>hk.2) (.slice f5 b3.length f3)) (fun _ h_=>h_.1))):p:=h
theorem zq33 (h:p:=by refine zqfR ?_;exact(Kd.R_mono (Kd.R_far (p:=⟨a1,2,none⟩) (Kd.R_far (p:=⟨a1,1,none⟩) (Kd.R_far (p:=⟨a1,0,none⟩) (Kd.R_types b2.out a2.out (by decide)) (fun _ hk=>hk.2) (.slice c5 a9.length c0)) (fun _ hk=>hk.2) (.slice c6 b0.length c1)) (fun _ hk=>hk.2) (.slice d8 b3.length d0)) (fun _ h_=>h_.1))):p:=h
theorem zq34 (h:p:=by refine zqfR ?_;exact(Kd.R_mono (Kd.R_far (p:=⟨a1,2,none⟩) (Kd.R_far (p:=⟨a1,1,none⟩) (Kd.R_far (p:=⟨a1,0,none⟩) (Kd.R_types b2.out a2.out (by decide)) (fun _ hk=>hk.2) (.slice c7 a9.length c2)) (fun _ hk=>hk.2) (.slice c8 b0.length c4)) (fun _ hk=>hk.2) (.slice d9 b3.length d1)) (fun _ h_=>h_.1))):p:=h
theorem zq35 (h:p:=by refine zqfR ?_;exact(Kd.R_mono (Kd.R_far (p:=⟨a1,2,none⟩) (Kd.R_far (p:=⟨a1,1,none⟩) (Kd.R_far (p:=⟨a1,0,none⟩) (Kd.R_types b2.out a2.out (by decide)) (fun _ hk=>hk.2) (.slice e3 a9.length e0)) (fun _ hk=>hk.2) (.slice e4 b0.length e1)) (fun _ hk=>hk.2) (.slice f5 b3.length f3)) (fun _ h_=>h_.1))):p:=h
theorem zq36 (h:p:=by refine zqfS ?_;exact(Kd.S_mono (Kd.S_far (p:=⟨a1,2,none⟩) (Kd.S_far (p:=⟨a1,1,none⟩) (Kd.S_far (p:=⟨a1,0,none⟩) (Kd.S_types b1.out a2.out (by decide)) (fun _ hk=>hk.2) (.slice c5 a9.length c0)) (fun _ hk=>hk.2) (.slice c6 b0.length c1)) (fun _ hk=>hk.2) (.slice d8 b3.length d0)) (fun _ h_=>h_.1))):p:=h
theorem zq37 (h:p:=by refine zqfS ?_;exact(Kd.S_mono (Kd.S_far (p:=⟨a1,2,none⟩) (Kd.S_far (p:=⟨a1,1,none⟩) (Kd.S_far (p:=⟨a1,0,none⟩) (Kd.S_types b1.out a2.out (by decide)) (fun _ hk=>hk.2) (.slice c7 a9.length c2)) (fun _ hk=>hk.2) (.slice c8 b0.length c4)) (fun _ hk=>hk.2) (.slice d9 b3.length d1)) (fun _ h_=>h_.1))):p:=h
theorem zq38 (h:p:=by refine zqfS ?_;exact(Kd.S_mono (Kd.S_far (p:=⟨a1,2,none⟩) (Kd.S_far (p:=⟨a1,1,none⟩) (Kd.S_far (p:=⟨a1,0,none⟩) (Kd.S_types b1.out a2.out (by decide)) (fun _ hk=>hk.2) (.slice e3 a9.length e0)) (fun _ hk=>hk.2) (.slice e4 b0.length e1)) (fun _ hk=>hk.2) (.slice f5 b3.length f3)) (fun _ h_=>h_.1))):p:=h
theorem zq39 (h:p:=by have:=b1.out;have:=b2.out;have:=e8.out;have:=b3.out;have:=h1.out;omega):p:=h
theorem zq40 (h:p:=by have:=b4.out;have:=b3.out;have:=d8.out;have:=g3.out;have:=j1.out;omega):p:=h
theorem zq41 (h:p:=by repeat(first|(with_reducible first|exact HB.out|apply below_alloc|apply pw_below_drewN|apply below_drew1|refine below_set ?_ a6.out|refine below_set ?_ a8.out)|exact HB.out)):p:=h
theorem zq42 (h:p:=by repeat(first|(with_reducible first|exact HB.out|apply below_alloc|apply pw_below_drewN|apply below_drew1|refine below_set ?_ a6.out|refine below_set ?_ b2.out)|exact HB.out)):p:=h
theorem zq43 (h:p:=by repeat(first|exact(Kd.C_below a9.out HB.out)|(with_reducible refine Kd.C_alloc ?_ _)|(with_reducible refine Kd.C_drewN ?_ _)|(with_reducible refine Kd.C_drew ?_))):p:=h
theorem zq44 (h:p:=by repeat(first|exact(Kd.C_below b0.out HB.out)|(with_reducible refine Kd.C_alloc ?_ _)|(with_reducible refine Kd.C_drewN ?_ _)|(with_reducible refine Kd.C_drew ?_))):p:=h
theorem zq45 (h:p:=by repeat(first|exact(Kd.C_below b2.out HB.out)|(with_reducible refine Kd.C_alloc ?_ _)|(with_reducible refine Kd.C_drewN ?_ _)|(with_reducible refine Kd.C_drew ?_))):p:=h
theorem zq46 (h:p:=by repeat(first|exact(Kd.C_below b8.out HB.out)|(with_reducible refine Kd.C_alloc ?_ _)|(with_reducible refine Kd.C_drewN ?_ _)|(with_reducible refine Kd.C_drew ?_))):p:=h
theorem zq47 (h:p:=by repeat(first|exact(Kd.C_below c0.out HB.out)|(with_reducible refine Kd.C_alloc ?_ _)|(with_reducible refine Kd.C_drewN ?_ _)|(with_reducible refine Kd.C_drew ?_))):p:=h
theorem zq48 (h:p:=by repeat(first|exact(Kd.C_below c1.out HB.out)|(with_reducible refine Kd.C_alloc ?_ _)|(with_reducible refine Kd.C_drewN ?_ _)|(with_reducible refine Kd.C_drew ?_))):p:=h
theorem zq49 (h:p:=by repeat(first|exact(Kd.C_below d0.out HB.out)|(with_reducible refine Kd.C_alloc ?_ _)|(with_reducible refine Kd.C_drewN ?_ _)|(with_reducible refine Kd.C_drew ?_))):p:=h
theorem zq50 (h:p:=by repeat(first|exact(Kd.R_reads' a4.out).2.2|(with_reducible refine Kd.C_alloc ?_ _)|(with_reducible refine Kd.C_drewN ?_ _)|(with_reducible refine Kd.C_drew ?_))):p:=h
theorem zq51 (h:p:=by repeat(first|exact(Kd.R_reads' a7.out).2.2|(with_reducible refine Kd.C_alloc ?_ _)|(with_reducible refine Kd.C_drewN ?_ _)|(with_reducible refine Kd.C_drew ?_))):p:=h
theorem zq52 (h:p:=by repeat(first|exact(Kd.S_reads' a5.out).2.2|(with_reducible refine Kd.C_alloc ?_ _)|(with_reducible refine Kd.C_drewN ?_ _)|(with_reducible refine Kd.C_drew ?_))):p:=h
theorem zq53 (h:p:=by refine zqfR ?_;exact(Kd.R_mono (Kd.R_far (p:=⟨a1,1,none⟩) (Kd.R_far (p:=⟨a1,0,none⟩) (Kd.R_types c0.out a3.out (by decide)) (fun _ hk=>hk.2) (.slice a9 a7.length b0)) (fun _ hk=>hk.2) (.slice b3 a8.length b4)) (fun _ h_=>h_.1))):p:=h
theorem zq54 (h:p:=by refine zqfS ?_;exact(Kd.S_mono (Kd.S_far (p:=⟨a1,1,none⟩) (Kd.S_far (p:=⟨a1,0,none⟩) (Kd.S_types b9.out a3.out (by decide)) (fun _ hk=>hk.2) (.slice a9 a7.length b0)) (fun _ hk=>hk.2) (.slice b3 a8.length b4)) (fun _ h_=>h_.1))):p:=h
theorem zq55 (h:p:=by refine zqe ?_;refine blk_far ?_ b4.out _;refine zqe ?_;refine blk_far ?_ b4.out _;refine zqe ?_;refine blk_far ?_ b4.out _;refine zqe ?_;exact a0.out):p:=h
theorem zq56 (h:p:=by have:=b0.out;have:=b7.out;have:=b8.out;omega):p:=h
theorem zq57 (h:p:=by repeat(first|exact a6.out|(with_reducible refine Kd.C_alloc ?_ _)|(with_reducible refine Kd.C_drewN ?_ _)|(with_reducible refine Kd.C_drew ?_))):p:=h
theorem zq58 (h:p:=by have:=b1.out;have:=b2.out;have:=e7.out;have:=b3.out;have:=g5.out;omega):p:=h
theorem zq59 (h:p:=by have:=c8.out;have:=d0.out;have:=f0.out;have:=e7.out;have:=g2.out;omega):p:=h
theorem zq60 (h:p:=by first|(go_simp;done)|(simp;done)|assumption|(go_simp;assumption)):p:=h
theorem zq61 (h:p:=by repeat(first|exact Kd.C_below HR0.out HB.out|(refine Kd.C_drewN ?_ _)|(refine Kd.C_drew ?_))):p:=h
theorem zq62 (h:p:=by repeat(first|exact(Kd.C_below a5.out HB.out)|(with_reducible refine Kd.C_alloc ?_ _)|(with_reducible refine Kd.C_drewN ?_ _)|(with_reducible refine Kd.C_drew ?_))):p:=h
theorem zq63 (h:p:=by repeat(first|exact(Kd.C_below a7.out HB.out)|(with_reducible refine Kd.C_alloc ?_ _)|(with_reducible refine Kd.C_drewN ?_ _)|(with_reducible refine Kd.C_drew ?_))):p:=h
theorem zq64 (h:p:=by repeat(first|exact(Kd.C_below b5.out HB.out)|(with_reducible refine Kd.C_alloc ?_ _)|(with_reducible refine Kd.C_drewN ?_ _)|(with_reducible refine Kd.C_drew ?_))):p:=h
theorem zq65 (h:p:=by repeat(first|exact(Kd.C_below c8.out HB.out)|(with_reducible refine Kd.C_alloc ?_ _)|(with_reducible refine Kd.C_drewN ?_ _)|(with_reducible refine Kd.C_drew ?_))):p:=h
theorem zq66 (h:p:=by repeat(first|exact(Kd.C_below c9.out HB.out)|(with_reducible refine Kd.C_alloc ?_ _)|(with_reducible refine Kd.C_drewN ?_ _)|(with_reducible refine Kd.C_drew ?_))):p:=h
theorem zq67 (h:p:=by repeat(first|exact(Kd.C_below d1.out HB.out)|(with_reducible refine Kd.C_alloc ?_ _)|(with_reducible refine Kd.C_drewN ?_ _)|(with_reducible refine Kd.C_drew ?_))):p:=h
theorem zq68 (h:p:=by repeat(first|exact(Kd.S_reads' HO_3.out).2.2|(with_reducible refine Kd.C_alloc ?_ _)|(with_reducible refine Kd.C_drewN ?_ _)|(with_reducible refine Kd.C_drew ?_))):p:=h
theorem zq69 (h:p:=by repeat(first|exact(Kd.R_reads' a8.out).2.2|(with_reducible refine Kd.C_alloc ?_ _)|(with_reducible refine Kd.C_drewN ?_ _)|(with_reducible refine Kd.C_drew ?_))):p:=h
theorem zq70 (h:p:=by repeat(first|exact(Kd.R_reads' b2.out).2.2|(with_reducible refine Kd.C_alloc ?_ _)|(with_reducible refine Kd.C_drewN ?_ _)|(with_reducible refine Kd.C_drew ?_))):p:=h
theorem zq71 (h:p:=by repeat(first|exact(Kd.R_reads' e6.out).2.2|(with_reducible refine Kd.C_alloc ?_ _)|(with_reducible refine Kd.C_drewN ?_ _)|(with_reducible refine Kd.C_drew ?_))):p:=h
theorem zq72 (h:p:=by repeat(first|exact(Kd.R_reads' e7.out).2.2|(with_reducible refine Kd.C_alloc ?_ _)|(with_reducible refine Kd.C_drewN ?_ _)|(with_reducible refine Kd.C_drew ?_))):p:=h
theorem zq73 (h:p:=by repeat(first|exact(Kd.S_reads' b1.out).2.2|(with_reducible refine Kd.C_alloc ?_ _)|(with_reducible refine Kd.C_drewN ?_ _)|(with_reducible refine Kd.C_drew ?_))):p:=h
theorem zq74 (h:p:=by repeat(first|exact(Kd.S_reads' e5.out).2.2|(with_reducible refine Kd.C_alloc ?_ _)|(with_reducible refine Kd.C_drewN ?_ _)|(with_reducible refine Kd.C_drew ?_))):p:=h
theorem zq75 (h:p:=by repeat(first|exact a8.out|(with_reducible refine Kd.C_alloc ?_ _)|(with_reducible refine Kd.C_drewN ?_ _)|(with_reducible refine Kd.C_drew ?_))):p:=h
theorem zq76 (h:p:=by repeat(first|exact b7.out|(with_reducible refine Kd.C_alloc ?_ _)|(with_reducible refine Kd.C_drewN ?_ _)|(with_reducible refine Kd.C_drew ?_))):p:=h
theorem zq77 (h:p:=by (repeat(first|exact HOr2.out|apply Kd.R_alloc))):p:=h
theorem zq78 (h:p:=by have:=b4.out;have:=b3.out;have:=d8.out;first|omega|exact Nat.le_refl _):p:=h
theorem zq79 (h:p:=by (repeat(first|exact HA7.out|apply Kd.R_alloc))):p:=h
theorem zq80 (h:p:=by first | rfl | (simp; done) | (simp [*]; done)):p:=h
theorem zq81 (h:p:=by have:=a2.out;have:=a6.out;have:=a7.out;omega):p:=h
theorem zq82 (h:p:=by have:=HLT.out;have:=HL.out;omega):p:=h
theorem zq83 (h:p:=by exact Kd.C_below HR0.out HB.out):p:=h
theorem zq84 (h:p:=by have:=a5.out;have:=a6.out;omega):p:=h
theorem zq85 (h:p:=by have:=d7.out;have:=j0.out;omega):p:=h
theorem zq86 (h:p:=by have:=e0.out;have:=j2.out;omega):p:=h
theorem zq87 (h:p:=by first|go_num|(rw [wrap_small (by omega) (by have:=HLTb.out;have:=HSM.out;omega)];go_num)):p:=h
theorem zq88 (h:p:=by have:=a8.out;have:=b0.out;have:=b1.out;omega):p:=h
theorem zq89 (h:p:=by have:=b1.out;have:=b2.out;have:=e7.out;have:=b3.out;first|omega|exact Nat.le_refl _):p:=h
theorem zq90 (h:p:=by (repeat(first|exact HG7.out|refine blk_alloc ?_ _))):p:=h
theorem zq91 (h:p:=by (repeat(first|exact HGr.out|refine blk_alloc ?_ _))):p:=h
theorem zq92 (h:p:=by (repeat(first|exact HX7.out|refine blk_alloc ?_ _))):p:=h
theorem zq93 (h:p:=by (repeat(first|exact HXr.out|refine blk_alloc ?_ _))):p:=h
theorem zq94 (h:p:=by (try simp only [List.map_toArray,List.map_cons,List.map_nil]);first|done|rfl):p:=h
theorem zq95 (h:p:=by refine zqfS ?_;exact Kd.S_mono HO_3.out (fun k_ hk=>⟨trivial,fun e_=>hk e_⟩)):p:=h
theorem zq96 (h:p:=by exact(Kd.R_reads' a8.out).2.1):p:=h
theorem zq97 (h:p:=by exact(Kd.R_reads' b2.out).2.1):p:=h
theorem zq98 (h:p:=by exact(Kd.S_reads' b1.out).2.1):p:=h
theorem zq99 (h:p:=by (repeat(first|exact HrO7.out|apply Kd.R_alloc))):p:=h
theorem zq100 (h:p:=by have:=c8.out;have:=d0.out;have:=f0.out;first|omega|exact Nat.le_refl _):p:=h
theorem zq101 (h:p:=by (repeat(first|exact HAr.out|apply Kd.R_alloc))):p:=h
theorem zq102 (h:p:=by (repeat(first|exact HO7.out|apply Kd.R_alloc))):p:=h
theorem zq103 (h:p:=by (repeat(first|exact HV7.out|apply Kd.R_alloc))):p:=h
theorem zq104 (h:p:=by (repeat(first|exact HVr.out|apply Kd.R_alloc))):p:=h
theorem zq105 (h:p:=by (repeat(first|exact HrA.out|apply Kd.R_alloc))):p:=h
theorem zq106 (h:p:=by (repeat(first|exact HrO.out|apply Kd.R_alloc))):p:=h
theorem zq107 (h:p:=by exact Kd.C_below HR1.out HB.out):p:=h
theorem zq108 (h:p:=by first|omega|exact Nat.le_refl _):p:=h
theorem zq109 (h:p:=by have:=a9.out;have:=b0.out;omega):p:=h
theorem zq110 (h:p:=by have:=b4.out;have:=b3.out;omega):p:=h
theorem zq111 (h:p:=by have:=e8.out;have:=e9.out;omega):p:=h
end
end Go.Proofs.Ytndbbbnofmlkdaa
end
section
namespace Go.Proofs.Ytndbbbnofmlkdaa.Print
open Go.RowKit Go.Proofs.YtndbbbnofmlkdaaW.PrintWords Go.Proofs.YtndbbbnofmlkdaaW.PrintLast Go.Proofs.YtndbbbnofmlkdaaW.PrintMore
section
attribute [local go_sem] max2_int min2_int max_two min_two max_three min_three max_four min_four
def errW : Option Int → Value
 | none => .nilIface
 | some c => .iface 0 (.int .i64 c)
theorem errW_none : errW none = .nilIface := rfl
theorem errW_some (c : Int) : errW (some c) = .iface 0 (.int .i64 c) := rfl
theorem info3 : (Try.prog.info? 3).map (fun i => (i.zero, i.size, i.bytes)) = some (some (.int .i64 0), 1, 8) := by kernel_rfl
theorem info23 : (Try.prog.info? 23).map (fun i => (i.zero, i.size, i.bytes)) = some (some (.slice none 0 0), 1, 24) := by kernel_rfl
theorem info25 : (Try.prog.info? 25).map (fun i => (i.zero, i.size, i.bytes)) = some (some (.agg #[(.slice none 0 0), (.slice none 0 0)]), 2, 48) := by kernel_rfl
def rd_L1 (xs : List (List Int)) (i : Int) : (List Int) := xs.getD i.toNat ([] : List Int)
theorem at_L1 {w : World} {A : Option Addr} {n : Nat} {xs : List (List Int)} (h : Kd.C (Kd.slice 3 (Kd.int .i64)) w A n xs) (i : Int) (h0 : 0 ≤ i) (h1 : i < n) : ∃ ad A0 c0, A = some ad ∧ w.cell? (ad.add i.toNat) = some (.slice A0 (rd_L1 xs i).length c0) ∧ (rd_L1 xs i).length ≤ c0 ∧ (Kd.int .i64).C w A0 (rd_L1 xs i).length (rd_L1 xs i) := by
 obtain ⟨ad, c, e, _, hK, hc0⟩ := Kd.C_get h ([] : List Int) i h0 h1
 have hc : ∀ j u, c[j]? = some u → w.cell? (ad.add (i.toNat * 1 + j)) = some u := hc0
 obtain ⟨A0, c0, rfl, l0, g0⟩ := hK
 exact ⟨ad, A0, c0, e, by have hq := hc 0 _ rfl; rwa [Nat.mul_one, Nat.add_zero] at hq, l0, g0⟩
structure S25 where
 f0 : (List (List Int))
 f1 : (List Int)
def z25 : S25 := ⟨([] : List (List Int)), ([] : List Int)⟩
def k25 : Kd S25 := Kd.iso (Kd.pair (Kd.slice 23 (Kd.slice 3 (Kd.int .i64))) (Kd.slice 3 (Kd.int .i64))) (fun x : S25 => (x.f0, x.f1))
theorem k25_open {w : World} {x : S25} {cs : List Value} (h : k25.K w x cs) : ∃ A0 c0 A1 c1, cs = [.slice A0 x.f0.length c0, .slice A1 x.f1.length c1] ∧ x.f0.length ≤ c0 ∧ (Kd.slice 3 (Kd.int .i64)).C w A0 x.f0.length x.f0 ∧ x.f1.length ≤ c1 ∧ (Kd.int .i64).C w A1 x.f1.length x.f1 := by
 obtain ⟨_, _, rfl, ⟨A0, c0, rfl, l0, g0⟩, ⟨A1, c1, rfl, l1, g1⟩⟩ := h
 exact ⟨A0, c0, A1, c1, rfl, l0, g0, l1, g1⟩
theorem k25_openM {w : World} {base : Nat} {ok : Nat → Prop} {x : S25} {cs : List Value} (h : k25.M w base ok x cs) : ∃ v0 v1, cs = [v0, v1] ∧ (Kd.slice 3 (Kd.int .i64)).R 23 w base ok v0 x.f0 ∧ (Kd.int .i64).R 3 w base ok v1 x.f1 := by
 obtain ⟨_, _, rfl, ⟨v0, rfl, g0⟩, ⟨v1, rfl, g1⟩⟩ := h
 exact ⟨v0, v1, rfl, g0, g1⟩
theorem k25_mkM (w : World) (base : Nat) (ok : Nat → Prop) (x : S25) {v0 : Value} (g0 : (Kd.slice 3 (Kd.int .i64)).R 23 w base ok v0 x.f0) {v1 : Value} (g1 : (Kd.int .i64).R 3 w base ok v1 x.f1) : k25.M w base ok x [v0, v1] := ⟨[v0], [v1], rfl, ⟨v0, rfl, g0⟩, ⟨v1, rfl, g1⟩⟩
def rd_T25 (xs : List S25) (i : Int) : S25 := xs.getD i.toNat z25
theorem at_T25 {w : World} {A : Option Addr} {n : Nat} {xs : List S25} (h : Kd.C k25 w A n xs) (i : Int) (h0 : 0 ≤ i) (h1 : i < n) : ∃ ad A0 c0 A1 c1, A = some ad ∧ w.cell? (ad.add (i.toNat * 2)) = some (.slice A0 (rd_T25 xs i).f0.length c0) ∧ w.cell? ⟨(ad.add (i.toNat * 2)).block, (ad.add (i.toNat * 2)).off + 1, none⟩ = some (.slice A1 (rd_T25 xs i).f1.length c1) ∧ (rd_T25 xs i).f0.length ≤ c0 ∧ (Kd.slice 3 (Kd.int .i64)).C w A0 (rd_T25 xs i).f0.length (rd_T25 xs i).f0 ∧ (rd_T25 xs i).f1.length ≤ c1 ∧ (Kd.int .i64).C w A1 (rd_T25 xs i).f1.length (rd_T25 xs i).f1 := by
 obtain ⟨ad, c, e, _, hK, hc0⟩ := Kd.C_get h z25 i h0 h1
 have hc : ∀ j u, c[j]? = some u → w.cell? (ad.add (i.toNat * 2 + j)) = some u := hc0
 obtain ⟨A0, c0, A1, c1, rfl, l0, g0, l1, g1⟩ := k25_open hK
 exact ⟨ad, A0, c0, A1, c1, e, hc 0 _ rfl, by rw [← add_field _ _ 1 (by omega)]; exact hc 1 _ rfl, l0, g0, l1, g1⟩
structure S34 where
 f0 : (List (List Int))
 f1 : (List Int)
def z34 : S34 := ⟨([] : List (List Int)), ([] : List Int)⟩
def k34 : Kd S34 := Kd.iso (Kd.pair (Kd.slice 23 (Kd.slice 3 (Kd.int .i64))) (Kd.slice 3 (Kd.int .i64))) (fun x : S34 => (x.f0, x.f1))
theorem k34_open {w : World} {x : S34} {cs : List Value} (h : k34.K w x cs) : ∃ A0 c0 A1 c1, cs = [.slice A0 x.f0.length c0, .slice A1 x.f1.length c1] ∧ x.f0.length ≤ c0 ∧ (Kd.slice 3 (Kd.int .i64)).C w A0 x.f0.length x.f0 ∧ x.f1.length ≤ c1 ∧ (Kd.int .i64).C w A1 x.f1.length x.f1 := by
 obtain ⟨_, _, rfl, ⟨A0, c0, rfl, l0, g0⟩, ⟨A1, c1, rfl, l1, g1⟩⟩ := h
 exact ⟨A0, c0, A1, c1, rfl, l0, g0, l1, g1⟩
def rd_T34 (xs : List S34) (i : Int) : S34 := xs.getD i.toNat z34
theorem at_T34 {w : World} {A : Option Addr} {n : Nat} {xs : List S34} (h : Kd.C k34 w A n xs) (i : Int) (h0 : 0 ≤ i) (h1 : i < n) : ∃ ad A0 c0 A1 c1, A = some ad ∧ w.cell? (ad.add (i.toNat * 2)) = some (.slice A0 (rd_T34 xs i).f0.length c0) ∧ w.cell? ⟨(ad.add (i.toNat * 2)).block, (ad.add (i.toNat * 2)).off + 1, none⟩ = some (.slice A1 (rd_T34 xs i).f1.length c1) ∧ (rd_T34 xs i).f0.length ≤ c0 ∧ (Kd.slice 3 (Kd.int .i64)).C w A0 (rd_T34 xs i).f0.length (rd_T34 xs i).f0 ∧ (rd_T34 xs i).f1.length ≤ c1 ∧ (Kd.int .i64).C w A1 (rd_T34 xs i).f1.length (rd_T34 xs i).f1 := by
 obtain ⟨ad, c, e, _, hK, hc0⟩ := Kd.C_get h z34 i h0 h1
 have hc : ∀ j u, c[j]? = some u → w.cell? (ad.add (i.toNat * 2 + j)) = some u := hc0
 obtain ⟨A0, c0, A1, c1, rfl, l0, g0, l1, g1⟩ := k34_open hK
 exact ⟨ad, A0, c0, A1, c1, e, hc 0 _ rfl, by rw [← add_field _ _ 1 (by omega)]; exact hc 1 _ rfl, l0, g0, l1, g1⟩
end
end Go.Proofs.Ytndbbbnofmlkdaa.Print
end
section
namespace Oml
section
def at1 (N : List Int) (a : Nat) : Int := N.getD a 0
def at2 (U : List (List Int)) (a b : Nat) : Int := (U.getD a []).getD b 0
def leB (U : List (List Int)) (a b : Nat) : Bool := at2 U a b == 1
def allN (n : Nat) (p : Nat → Bool) : Bool := (List.range n).all p
def findN (n : Nat) (p : Nat → Bool) : Option Nat := (List.range n).find? p
theorem allN_iff {n : Nat} {p : Nat → Bool} : allN n p = true ↔ ∀ i, i < n → p i = true := by
 simp [allN, List.all_eq_true]
theorem allN_false {n : Nat} {p : Nat → Bool} : allN n p = false ↔ ∃ i, i < n ∧ p i = false := by
 rw [← Bool.not_eq_true,allN_iff]
 constructor
 ·intro h
  apply Classical.byContradiction
  intro k
  exact h fun i hi=>by
   cases e:p i
   ·exact absurd ⟨i,hi,e⟩ k
   ·rfl
 ·rintro ⟨i,hi,e⟩ h
  rw [h i hi] at e
  exact absurd e (by simp)
theorem findN_some {n : Nat} {p : Nat → Bool} {i : Nat} (h : findN n p = some i) : i < n ∧ p i = true := by
 have h1:=List.find?_some h
 have h2:=List.mem_of_find?_eq_some h
 exact⟨by simpa using h2,h1⟩
theorem findN_none {n : Nat} {p : Nat → Bool} : findN n p = none ↔ ∀ i, i < n → p i = false := by
 unfold findN
 rw [List.find?_eq_none]
 constructor
 ·intro h i hi
  have:=h i (by simpa using hi)
  simpa using this
 ·intro h i hi
  have:=h i (by simpa using hi)
  simp [this]
theorem findN_first {n : Nat} {p : Nat → Bool} {i : Nat} (h : findN n p = some i) : ∀ j, j < i → p j = false := by
 unfold findN at h
 rw [List.find?_range_eq_some] at h
 intro j hj
 have:=h.2.2 j hj
 simpa using this
theorem findN_of {n : Nat} {p : Nat → Bool} {i : Nat} (hi : i < n) (h : p i = true) (hf : ∀ j, j < i → p j = false) : findN n p = some i := by
 unfold findN
 rw [List.find?_range_eq_some]
 exact⟨h,by simpa using hi,fun j hj=>by simp [hf j hj]⟩
theorem findN_uniq {n : Nat} {p : Nat → Bool} {i : Nat} (hi : i < n) (h : p i = true) (hu : ∀ j, j < n → p j = true → j = i) : findN n p = some i := by
 refine findN_of hi h fun j hj=>?_
 cases e:p j
 ·rfl
 ·have:=hu j (by omega) e;omega
structure Order (U : List (List Int)) : Prop where
 pos:1≤U.length
 small:U.length≤12
 row: ∀a,a<U.length→(U.getD a []).length=U.length
 bit: ∀a b,a<U.length→b<U.length→at2 U a b=0∨at2 U a b=1
 refl: ∀a,a<U.length→leB U a a=true
 anti: ∀a b,a<U.length→b<U.length→leB U a b=true→leB U b a=true→a=b
 trans: ∀a b c,a<U.length→b<U.length→c<U.length→leB U a b=true→leB U b c=true→leB U a c=true
def orderB (U : List (List Int)) : Bool :=
 decide (1≤U.length) && (decide (U.length≤12) && (allN U.length (fun a=>(U.getD a []).length==U.length && allN U.length fun b=>at2 U a b==0||at2 U a b==1) &&
  allN U.length fun a=>leB U a a && allN U.length fun b=>((a==b)||!(leB U a b && leB U b a)) && allN U.length fun c=>!(leB U a b && leB U b c)||leB U a c))
theorem orderB_iff {U : List (List Int)} : orderB U = true ↔ Order U := by
 unfold orderB
 simp only [Bool.and_eq_true,decide_eq_true_eq,allN_iff,Bool.or_eq_true,beq_iff_eq,Bool.not_eq_true']
 constructor
 ·rintro ⟨h1,h2,h3,h4⟩
  refine⟨h1,h2,fun a ha=>(h3 a ha).1,fun a b ha hb=>(h3 a ha).2 b hb,fun a ha=>(h4 a ha).1,fun a b ha hb k1 k2=>?_,fun a b c ha hb hc k1 k2=>?_⟩
  ·rcases ((h4 a ha).2 b hb).1 with e|e
   ·exact e
   ·rw [k1,k2] at e;exact absurd e (by simp)
  ·rcases ((h4 a ha).2 b hb).2 c hc with e|e
   ·rw [k1,k2] at e;exact absurd e (by simp)
   ·exact e
 ·intro O
  refine⟨O.pos,O.small,fun a ha=>⟨O.row a ha,fun b hb=>O.bit a b ha hb⟩,fun a ha=>⟨O.refl a ha,fun b hb=>⟨?_,fun c hc=>?_⟩⟩⟩
  ·by_cases e:a=b
   ·exact .inl e
   ·right
    cases k1:leB U a b <;> cases k2:leB U b a <;> simp
    exact e (O.anti a b ha hb k1 k2)
  ·cases k1:leB U a b <;> cases k2:leB U b c <;> simp
   exact O.trans a b c ha hb hc k1 k2
theorem Order.val {U : List (List Int)} (O : Order U) {a b : Nat} (ha : a < U.length) (hb : b < U.length) : at2 U a b = if leB U a b = true then 1 else 0 := by
 unfold leB
 rcases O.bit a b ha hb with e|e <;> simp [e]
def meetP (U : List (List Int)) (a b c : Nat) : Bool := leB U c a && (leB U c b && allN U.length fun d => !(leB U d a && leB U d b) || leB U d c)
def joinP (U : List (List Int)) (a b c : Nat) : Bool := leB U a c && (leB U b c && allN U.length fun d => !(leB U a d && leB U b d) || leB U c d)
def meetO (U : List (List Int)) (a b : Nat) : Option Nat := findN U.length (meetP U a b)
def joinO (U : List (List Int)) (a b : Nat) : Option Nat := findN U.length (joinP U a b)
def leastO (U : List (List Int)) : Option Nat := findN U.length fun a => allN U.length fun b => leB U a b
def optI (o : Option Nat) : Int := match o with | some m => (m : Int) | none => -1
theorem meetP_iff {U : List (List Int)} {a b c : Nat} : meetP U a b c = true ↔ leB U c a = true ∧ leB U c b = true ∧ ∀ d, d < U.length → leB U d a = true → leB U d b = true → leB U d c = true := by
 unfold meetP
 simp only [Bool.and_eq_true,allN_iff,Bool.or_eq_true,Bool.not_eq_true',Bool.and_eq_false_iff]
 constructor
 ·rintro ⟨h1,h2,h3⟩
  exact⟨h1,h2,fun d hd k1 k2=>by rcases h3 d hd with (e|e)|e <;> simp_all⟩
 ·rintro ⟨h1,h2,h3⟩
  refine⟨h1,h2,fun d hd=>?_⟩
  cases k1:leB U d a
  ·exact .inl (.inl rfl)
  ·cases k2:leB U d b
   ·exact .inl (.inr rfl)
   ·exact .inr (h3 d hd k1 k2)
theorem joinP_iff {U : List (List Int)} {a b c : Nat} : joinP U a b c = true ↔ leB U a c = true ∧ leB U b c = true ∧ ∀ d, d < U.length → leB U a d = true → leB U b d = true → leB U c d = true := by
 unfold joinP
 simp only [Bool.and_eq_true,allN_iff,Bool.or_eq_true,Bool.not_eq_true',Bool.and_eq_false_iff]
 constructor
 ·rintro ⟨h1,h2,h3⟩
  exact⟨h1,h2,fun d hd k1 k2=>by rcases h3 d hd with (e|e)|e <;> simp_all⟩
 ·rintro ⟨h1,h2,h3⟩
  refine⟨h1,h2,fun d hd=>?_⟩
  cases k1:leB U a d
  ·exact .inl (.inl rfl)
  ·cases k2:leB U b d
   ·exact .inl (.inr rfl)
   ·exact .inr (h3 d hd k1 k2)
theorem Order.meet_eq {U : List (List Int)} (O : Order U) {a b c : Nat} (hc : c < U.length) (h : meetP U a b c = true) : meetO U a b = some c := by
 refine findN_uniq hc h fun j hj e=>?_
 obtain⟨h1,h2,h3⟩:=meetP_iff.1 h
 obtain⟨k1,k2,k3⟩:=meetP_iff.1 e
 exact O.anti j c hj hc (h3 j hj k1 k2) (k3 c hc h1 h2)
theorem Order.join_eq {U : List (List Int)} (O : Order U) {a b c : Nat} (hc : c < U.length) (h : joinP U a b c = true) : joinO U a b = some c := by
 refine findN_uniq hc h fun j hj e=>?_
 obtain⟨h1,h2,h3⟩:=joinP_iff.1 h
 obtain⟨k1,k2,k3⟩:=joinP_iff.1 e
 exact O.anti j c hj hc (k3 c hc h1 h2) (h3 j hj k1 k2)
structure Logic (U : List (List Int)) (N : List Int) : Prop extends Order U where
 meets: ∀a b,a<U.length→b<U.length→(meetO U a b).isSome=true
 joins: ∀a b,a<U.length→b<U.length→(joinO U a b).isSome=true
 len:N.length=U.length
 ran: ∀a,a<U.length→0≤at1 N a∧at1 N a<U.length
 inv: ∀a,a<U.length→at1 N (at1 N a).toNat=a
 comp: ∀a,a<U.length→meetO U a (at1 N a).toNat=leastO U
 turn: ∀a b,a<U.length→b<U.length→leB U a b=true→leB U (at1 N b).toNat (at1 N a).toNat=true
def latticeB (U : List (List Int)) : Bool := orderB U && allN U.length fun a => allN U.length fun b => (meetO U a b).isSome && (joinO U a b).isSome
def logicB (U : List (List Int)) (N : List Int) : Bool :=
 latticeB U && (N.length==U.length && (allN U.length (fun a=>decide (0≤at1 N a) && decide (at1 N a<U.length)) &&
  allN U.length fun a=>at1 N (at1 N a).toNat==(a:Int) && (meetO U a (at1 N a).toNat==leastO U && allN U.length fun b=>!leB U a b||leB U (at1 N b).toNat (at1 N a).toNat)))
theorem latticeB_order {U : List (List Int)} (h : latticeB U = true) : Order U := by
 unfold latticeB at h
 exact orderB_iff.1 (Bool.and_eq_true_iff.1 h).1
theorem logicB_iff {U : List (List Int)} {N : List Int} : logicB U N = true ↔ Logic U N := by
 unfold logicB latticeB
 simp only [Bool.and_eq_true,decide_eq_true_eq,allN_iff,beq_iff_eq,Bool.or_eq_true,Bool.not_eq_true',orderB_iff]
 constructor
 ·rintro ⟨⟨h0,h1⟩,h2,h3,h4⟩
  refine { toOrder:=h0,meets:=fun a b ha hb=>(h1 a ha b hb).1,joins:=fun a b ha hb=>(h1 a ha b hb).2,len:=h2,ran:=h3,inv:=fun a ha=>(h4 a ha).1,comp:=fun a ha=>(h4 a ha).2.1,turn:=fun a b ha hb k=>?_ }
  rcases (h4 a ha).2.2 b hb with e|e
  ·rw [k] at e;exact absurd e (by simp)
  ·exact e
 ·intro L
  refine⟨⟨L.toOrder,fun a ha b hb=>⟨L.meets a b ha hb,L.joins a b ha hb⟩⟩,L.len,L.ran,fun a ha=>⟨L.inv a ha,L.comp a ha,fun b hb=>?_⟩⟩
  cases k:leB U a b
  ·exact .inl rfl
  ·exact .inr (L.turn a b ha hb k)
section
variable {U : List (List Int)} {N : List Int} (L : Logic U N)
include L in
theorem Logic.least_some : ∃ m, leastO U = some m := by
 have h0:0<U.length:=L.pos
 have:=L.comp 0 h0
 obtain⟨m,hm⟩:=Option.isSome_iff_exists.1 (L.meets 0 (at1 N 0).toNat h0 (by have:=L.ran 0 h0;omega))
 exact⟨m,by rw [← this,hm]⟩
end
end
end Oml
end
section
namespace Go.Proofs.Ytndbbbnofmlkdaa.Print
open Oml
def turnL (U : List (List Int)) : List (List Int) := (List.range U.length).map fun a => (List.range U.length).map fun b => at2 U b a
end Go.Proofs.Ytndbbbnofmlkdaa.Print
end
section
namespace Go.Proofs.Ytndbbbnofmlkdaa.Print
open Go.RowKit Go.Proofs.YtndbbbnofmlkdaaW.PrintWords Go.Proofs.YtndbbbnofmlkdaaW.PrintLast Go.Proofs.YtndbbbnofmlkdaaW.PrintMore
open Oml
def tabI (n : Nat) (f : Nat → Nat → Int) : List (List Int) := (List.range n).map fun a => (List.range n).map fun b => f a b
def mI (U : List (List Int)) (a b : Nat) : Int := optI (meetO U a b)
def jI (U : List (List Int)) (a b : Nat) : Int := optI (joinO U a b)
def rowT (f : Nat → Nat → Int) (a b : Nat) : List Int := (List.range b).map fun b => f a b
def tabT (n : Nat) (f : Nat → Nat → Int) (a : Nat) : List (List Int) := (List.range a).map fun a => rowT f a n
theorem rowT_succ (f : Nat → Nat → Int) (a b : Nat) : rowT f a (b + 1) = rowT f a b ++ [f a b] := by simp [rowT, List.range_succ]
theorem tabT_succ (n : Nat) (f : Nat → Nat → Int) (a : Nat) : tabT n f (a + 1) = tabT n f a ++ [rowT f a n] := by simp [tabT, List.range_succ]
theorem rowT_length (f : Nat → Nat → Int) (a b : Nat) : (rowT f a b).length = b := by simp [rowT]
theorem tabT_length (n : Nat) (f : Nat → Nat → Int) (a : Nat) : (tabT n f a).length = a := by simp [tabT]
theorem tabI_length (n : Nat) (f : Nat → Nat → Int) : (tabI n f).length = n := by simp [tabI]
theorem wrap_small {x : Int} (h0 : 0 ≤ x) (h : x < 1000000) : wrap64 x = x := by unfold wrap64; omega
theorem reads_one {W : World} {p : Addr} {v : Value} {row : List Int} (h : W.cell? p = some v) : ReadsRow (fun x cs => x = row ∧ cs = [v]) 1 W (some p) 1 [row] := by
 refine⟨rfl,by omega,fun _=>⟨p,rfl,fun j q hq=>?_⟩⟩
 have hj:j=0:=by
  rcases j with _|j
  ·rfl
  ·simp at hq
 subst hj
 have hq':row=q:=by simpa using hq
 refine⟨[v],rfl,⟨hq'.symm,rfl⟩,fun i u hu=>?_⟩
 rcases i with _|i
 ·have:v=u:=by simpa using hu
  subst this
  simpa [Addr.add] using h
 ·simp at hu
theorem grown_cell {W w1 : World} {row : Option Nat} (hg : W.grownBy w1 row) {p : Addr} {v : Value} (h : W.cell? p = some v) (hne : some p.block ≠ row) : w1.cell? p = some v := by
 have:=hg.block p.block (World.block_lt_of_cell? W p h) hne
 unfold World.cell? at*
 rw [this];exact h
theorem infoInt : (Try.prog.info? 3).map (fun i => (i.zero, i.size, i.bytes)) = some (some (.int .i64 0), 1, 8) := by kernel_rfl
theorem infoRow : (Try.prog.info? 23).map (fun i => (i.zero, i.size, i.bytes)) = some (some (.slice none 0 0), 1, 24) := by kernel_rfl
def AlgAt (W : World) (g : Nat) (U A O : List (List Int)) (N : List Int) (no yes : Int) : Prop :=
 ∃A0 c0 A1 c1 A2 c2 A3 c3,W.heap[g]? =some (.cells #[.slice A0 U.length c0,.slice A1 A.length c1,.slice A2 O.length c2,.slice A3 N.length c3,.int .i64 no,.int .i64 yes] 72 (0,0))∧
  (U.length≤c0∧A.length≤c1∧O.length≤c2∧N.length≤c3)∧Kd.C (Kd.slice 3 (Kd.int .i64)) W A0 U.length U∧Kd.C (Kd.slice 3 (Kd.int .i64)) W A1 A.length A∧Kd.C (Kd.slice 3 (Kd.int .i64)) W A2 O.length O∧Kd.C (Kd.int .i64) W A3 N.length N
def AlgOf (W : World) (g : Nat) (U : List (List Int)) (N : List Int) : Prop :=
 AlgAt W g U (tabI U.length (mI U)) (tabI U.length (jI U)) N (optI (leastO U)) (at1 N (optI (leastO U)).toNat)
theorem AlgAt.below {W W1 : World} {g : Nat} {U A O : List (List Int)} {N : List Int} {no yes : Int} (h : AlgAt W g U A O N no yes) (hb : Below W.heap.size W W1) : AlgAt W1 g U A O N no yes := by
 obtain⟨A0,c0,A1,c1,A2,c2,A3,c3,h1,hc,k0,k1,k2,k3⟩:=h
 exact⟨A0,c0,A1,c1,A2,c2,A3,c3,blk_below h1 hb,hc,Kd.C_below k0 hb,Kd.C_below k1 hb,Kd.C_below k2 hb,Kd.C_below k3 hb⟩
theorem ints_cell {W : World} {A : Option Addr} {n : Nat} {xs : List Int} (h : Kd.C (Kd.int .i64) W A n xs) (i : Int) (h0 : 0 ≤ i) (h1 : i < n) : ∃ ad, A = some ad ∧ W.cell? (ad.add i.toNat) = some (.int .i64 (at1 xs i.toNat)) := Kd.at_int h i h0 h1
theorem rows_cell {W : World} {A : Option Addr} {n : Nat} {xs : List (List Int)} (h : Kd.C (Kd.slice 3 (Kd.int .i64)) W A n xs) (i : Int) (h0 : 0 ≤ i) (h1 : i < n) :
 ∃ad Ar cr,A=some ad∧W.cell? (ad.add i.toNat)=some (.slice Ar (xs.getD i.toNat []).length cr)∧(xs.getD i.toNat []).length≤cr∧Kd.C (Kd.int .i64) W Ar (xs.getD i.toNat []).length (xs.getD i.toNat []):=by
 obtain⟨ad,c,e,_,hK,hc0⟩:=Kd.C_get h ([]:List Int) i h0 h1
 have hc: ∀j u,c[j]? =some u→W.cell? (ad.add (i.toNat*1+j))=some u:=hc0
 obtain⟨Ar,cr,rfl,l0,g0⟩:=hK
 exact⟨ad,Ar,cr,e,by have hq:=hc 0 _ rfl;rwa [Nat.mul_one,Nat.add_zero] at hq,l0,g0⟩
theorem mat_cell {W : World} {A : Option Addr} {n : Nat} {xs : List (List Int)} (h : Kd.C (Kd.slice 3 (Kd.int .i64)) W A n xs) (hr : ∀ a, a < n → (xs.getD a []).length = n) (a b : Int) (ha : 0 ≤ a) (ha' : a < n) (hb : 0 ≤ b) (hb' : b < n) :
 ∃ad ad' cr,A=some ad∧W.cell? (ad.add a.toNat)=some (.slice (some ad') n cr)∧W.cell? (ad'.add b.toNat)=some (.int .i64 (at2 xs a.toNat b.toNat))∧n≤cr:=by
 obtain⟨ad,Ar,cr,e,hc,hl,hk⟩:=rows_cell h a ha ha'
 have hn:=hr a.toNat (by omega)
 rw [hn] at hc hl hk
 obtain⟨ad',e',hc'⟩:=ints_cell hk b hb hb'
 subst e'
 exact⟨ad,ad',cr,e,hc,hc',hl⟩
theorem tabI_row (n : Nat) (f : Nat → Nat → Int) : ∀ a, a < n → ((tabI n f).getD a []).length = n := by
 intro a ha
 simp [tabI, List.getD_eq_getElem?_getD, ha]
theorem tabI_at (n : Nat) (f : Nat → Nat → Int) (a b : Nat) (ha : a < n) (hb : b < n) : at2 (tabI n f) a b = f a b := by
 simp [at2, tabI, List.getD_eq_getElem?_getD, ha, hb]
theorem tab_cell {W : World} {A : Option Addr} {n m : Nat} {f : Nat → Nat → Int} (h : Kd.C (Kd.slice 3 (Kd.int .i64)) W A m (tabI n f)) (a b : Int) (ha : 0 ≤ a) (ha' : a < n) (hb : 0 ≤ b) (hb' : b < n) :
 ∃ad ad' cr,A=some ad∧W.cell? (ad.add a.toNat)=some (.slice (some ad') n cr)∧W.cell? (ad'.add b.toNat)=some (.int .i64 (f a.toNat b.toNat))∧n≤cr:=by
 have hm:(tabI n f).length=m:=Kd.C_len h
 rw [tabI_length] at hm
 subst hm
 obtain⟨ad,ad',cr,h1,h2,h3,h4⟩:=mat_cell h (tabI_row n f) a b ha ha' hb hb'
 rw [tabI_at n f _ _ (by omega) (by omega)] at h3
 exact⟨ad,ad',cr,h1,h2,h3,h4⟩
theorem cell_up {w W : World} {B : Nat} {a : Addr} {v : Value} (h : w.cell? a = some v) (hb : Below B w W) (hB : B = w.heap.size) : W.cell? a = some v := by
 subst hB
 exact(hb.cell (World.block_lt_of_cell? w a h)).trans h
def ToldPost (U : List (List Int)) (N : List Int) (w : World) (e : Ending) (w' : World) : Prop :=
 Below w.heap.size w w'∧((logicB U N=true∧ ∃g,e= .returned (.pointer (some ⟨g,0,none⟩))∧w.heap.size≤g∧AlgOf w' g U N)∨(logicB U N=false∧e= .returned (.pointer none)))
theorem Ev.down {ρ : Type} {g : Nat → Nat → Option ρ} {R : Nat → ρ} (n : Nat) (hend : Ev (fun k => g k n) (R n)) (hstep : ∀ i, i < n → Ev (fun k => g k (i + 1)) (R (i + 1)) → Ev (fun k => g k i) (R i)) : ∀ i, i ≤ n → Ev (fun k => g k i) (R i) := by
 intro i hi
 obtain⟨d,hd⟩: ∃d,n=i+d:=⟨n - i,by omega⟩
 induction d generalizing i with
 |zero=>
  obtain rfl:n=i:=by omega
  exact hend
 |succ d ih=>exact hstep i (by omega) (ih (i+1) (by omega) (by omega))
theorem Ev.eq {α : Type} {g : Nat → Option α} {r r' : α} (h : Ev g r) (e : r = r') : Ev g r' := e ▸ h
def allFrom (n : Nat) (p : Nat → Bool) (i : Nat) : Bool := (List.range' i (n - i)).all p
def fstFrom (n : Nat) (p : Nat → Bool) (i : Nat) : Option Nat := (List.range' i (n - i)).find? p
theorem allFrom_lt {n : Nat} {p : Nat → Bool} {i : Nat} (h : i < n) : allFrom n p i = (p i && allFrom n p (i + 1)) := by
 unfold allFrom
 obtain⟨d,rfl⟩: ∃d,n=i+(d+1):=⟨n - i - 1,by omega⟩
 rw [show i+(d+1) - i=d+1 by omega,show i+(d+1) - (i+1)=d by omega,List.range'_succ,List.all_cons]
theorem allFrom_ge {n : Nat} {p : Nat → Bool} {i : Nat} (h : n ≤ i) : allFrom n p i = true := by
 unfold allFrom; rw [show n - i = 0 by omega]; rfl
theorem allFrom_zero (n : Nat) (p : Nat → Bool) : allFrom n p 0 = allN n p := by
 unfold allFrom allN; rw [Nat.sub_zero, List.range_eq_range']
theorem fstFrom_lt {n : Nat} {p : Nat → Bool} {i : Nat} (h : i < n) : fstFrom n p i = if p i = true then some i else fstFrom n p (i + 1) := by
 unfold fstFrom
 obtain⟨d,rfl⟩: ∃d,n=i+(d+1):=⟨n - i - 1,by omega⟩
 rw [show i+(d+1) - i=d+1 by omega,show i+(d+1) - (i+1)=d by omega,List.range'_succ,List.find?_cons]
 cases p i <;> simp
theorem fstFrom_ge {n : Nat} {p : Nat → Bool} {i : Nat} (h : n ≤ i) : fstFrom n p i = none := by
 unfold fstFrom; rw [show n - i = 0 by omega]; rfl
theorem fstFrom_zero (n : Nat) (p : Nat → Bool) : fstFrom n p 0 = findN n p := by
 unfold fstFrom findN; rw [Nat.sub_zero, List.range_eq_range']
theorem wrap_nat {i : Nat} (h : i < 4611686018427387904) : wrap64 ((i : Int) + 1) = ((i + 1 : Nat) : Int) := by unfold wrap64; omega
theorem Ev.succ {α : Type} {g : Nat → Option α} {r : α} (h : Ev (fun k => g (k + 1)) r) : Ev g r := Ev.step (fun _ => rfl) h
theorem Ev.ite_pos {α : Type} {c : Prop} [Decidable c] {a b : Nat → Option α} {r : α} (h : c) (k : Ev a r) : Ev (fun n => if c then a n else b n) r := by simpa only [if_pos h] using k
theorem Ev.ite_neg {α : Type} {c : Prop} [Decidable c] {a b : Nat → Option α} {r : α} (h : ¬ c) (k : Ev b r) : Ev (fun n => if c then a n else b n) r := by simpa only [if_neg h] using k
theorem Ev.ip {α : Type} {c : Prop} [Decidable c] {a b : Nat → Option α} {r : α} (k : Ev a r) (h : c := by first | assumption | (focus omega) | (simp <;> fail)) : Ev (fun n => if c then a n else b n) r := Ev.ite_pos h k
theorem Ev.iq {α : Type} {c : Prop} [Decidable c] {a b : Nat → Option α} {r : α} (k : Ev b r) (h : ¬ c := by first | assumption | (focus omega) | (simp <;> fail)) : Ev (fun n => if c then a n else b n) r := Ev.ite_neg h k
theorem Ev.pure {α : Type} {o : Option α} {r : α} (h : o = some r) : Ev (fun _ => o) r := h ▸ Ev.now r
theorem Ev.pbind {α β : Type} {g : Option α} {f : Nat → α → Option β} {a : α} {r : β} (h : g = some a) (k : Ev (fun n => f n a) r) : Ev (fun n => g.bind (f n)) r := Ev.bind (g := fun _ => g) (Ev.pure h) k
theorem Ev.all {ρ : Type} {g : Nat → Int → Option ρ} {n : Nat} (p : Nat → Bool) {go stop : ρ} (hn : n < 4611686018427387904) (hend : (∀ i, i < n → p i = true) → Ev (fun k => g k (n : Int)) go)
 (hstep: ∀i,i<n→(∀j,j<i→p j=true)→ ∀R,(p i=true→Ev (fun k=>g k (wrap64 ((i:Int)+1))) R)→Ev (fun k=>g k (i:Int)) (if p i=true then R else stop)):
 Ev (fun k=>g k 0) (if allN n p=true then go else stop):=by
 have key: ∀d i,i+d=n→(∀j,j<i→p j=true)→Ev (fun k=>g k (i:Int)) (if allFrom n p i=true then go else stop):=by
  intro d
  induction d with
  |zero=>
   intro i hi hj
   obtain rfl:i=n:=by omega
   rw [allFrom_ge (Nat.le_refl _),if_pos rfl]
   exact hend hj
  |succ d ih=>
   intro i hi hj
   rw [allFrom_lt (by omega)]
   refine Ev.eq (hstep i (by omega) hj (if allFrom n p (i+1)=true then go else stop) fun hp=>?_) ?_
   ·rw [wrap_nat (by omega)]
    exact ih (i+1) (by omega) fun j hj'=>by
     rcases Nat.lt_or_ge j i with h|h
     ·exact hj j h
     ·obtain rfl:j=i:=by omega
      exact hp
   ·cases p i <;> simp
 have:=key n 0 (by omega) fun _ h=>absurd h (Nat.not_lt_zero _)
 rw [allFrom_zero] at this
 exact this
theorem Ev.find {ρ : Type} {g : Nat → Int → Option ρ} {n : Nat} (p : Nat → Bool) {none' : ρ} {some' : Nat → ρ} (hn : n < 4611686018427387904) (hend : (∀ i, i < n → p i = false) → Ev (fun k => g k (n : Int)) none')
 (hstep: ∀i,i<n→(∀j,j<i→p j=false)→ ∀R,(p i=false→Ev (fun k=>g k (wrap64 ((i:Int)+1))) R)→Ev (fun k=>g k (i:Int)) (if p i=true then some' i else R)):
 Ev (fun k=>g k 0) (match findN n p with|some i=>some' i|none=>none'):=by
 have key: ∀d i,i+d=n→(∀j,j<i→p j=false)→Ev (fun k=>g k (i:Int)) (match fstFrom n p i with|some i=>some' i|none=>none'):=by
  intro d
  induction d with
  |zero=>
   intro i hi hj
   obtain rfl:i=n:=by omega
   rw [fstFrom_ge (Nat.le_refl _)]
   exact hend hj
  |succ d ih=>
   intro i hi hj
   rw [fstFrom_lt (by omega)]
   refine Ev.eq (hstep i (by omega) hj (match fstFrom n p (i+1) with|some i=>some' i|none=>none') fun hp=>?_) ?_
   ·rw [wrap_nat (by omega)]
    exact ih (i+1) (by omega) fun j hj'=>by
     rcases Nat.lt_or_ge j i with h|h
     ·exact hj j h
     ·obtain rfl:j=i:=by omega
      exact hp
   ·cases p i <;> simp
 have:=key n 0 (by omega) fun _ h=>absurd h (Nat.not_lt_zero _)
 rw [fstFrom_zero] at this
 exact this
theorem Ev.loop {σ ρ : Type} {g : Nat → σ → Int → Option ρ} (n : Nat) (I : Nat → σ → Prop) {R : ρ} (hn : n < 4611686018427387904) (hend : ∀ s, I n s → Ev (fun k => g k s (n : Int)) R)
 (hstep: ∀i s,i<n→I i s→ ∃s',I (i+1) s'∧(Ev (fun k=>g k s' (wrap64 ((i:Int)+1))) R→Ev (fun k=>g k s (i:Int)) R)): ∀s,I 0 s→Ev (fun k=>g k s 0) R:=by
 have key: ∀d i,i+d=n→ ∀s,I i s→Ev (fun k=>g k s (i:Int)) R:=by
  intro d
  induction d with
  |zero=>
   intro i hi s hs
   obtain rfl:i=n:=by omega
   exact hend s hs
  |succ d ih=>
   intro i hi s hs
   obtain⟨s',h1,h2⟩:=hstep i s (by omega) hs
   refine h2 ?_
   rw [wrap_nat (by omega)]
   exact ih (i+1) (by omega) s' h1
 exact fun s hs=>key n 0 (by omega) s hs
theorem Ev.all1 {ρ : Type} {g : Nat → Nat → Option ρ} {R : Nat → ρ} (n : Nat) (h : ∀ a, a < n → Ev (fun k => g k a) (R a)) : ∃ K, ∀ a, a < n → ∀ k, K ≤ k → g k a = some (R a) := by
 induction n with
 |zero=>exact⟨0,fun a ha=>absurd ha (Nat.not_lt_zero _)⟩
 |succ n ih=>
  obtain⟨K,hK⟩:=ih fun a ha=>h a (by omega)
  obtain⟨K',hK'⟩:=h n (by omega)
  refine⟨K+K',fun a ha k hk=>?_⟩
  rcases Nat.lt_or_ge a n with hlt|hge
  ·exact hK a hlt k (by omega)
  ·obtain rfl:a=n:=by omega
   exact hK' k (by omega)
theorem Ev.all2 {ρ : Type} {g : Nat → Nat → Nat → Option ρ} {R : Nat → Nat → ρ} (n : Nat) (h : ∀ a b, a < n → b < n → Ev (fun k => g k a b) (R a b)) : ∃ K, ∀ a b, a < n → b < n → ∀ k, K ≤ k → g k a b = some (R a b) := by
 have h1: ∀a,a<n→ ∃K,∀b,b<n→ ∀k,K≤k→g k a b=some (R a b):=fun a ha=>Ev.all1 n fun b hb=>h a b ha hb
 have h2: ∀m,m≤n→ ∃K,∀a b,a<m→b<n→ ∀k,K≤k→g k a b=some (R a b):=by
  intro m
  induction m with
  |zero=>exact fun _=>⟨0,fun a b ha=>absurd ha (Nat.not_lt_zero _)⟩
  |succ m ih=>
   intro hm
   obtain⟨K,hK⟩:=ih (by omega)
   obtain⟨K',hK'⟩:=h1 m (by omega)
   refine⟨K+K',fun a b ha hb k hk=>?_⟩
   rcases Nat.lt_or_ge a m with hlt|hge
   ·exact hK a b hlt hb k (by omega)
   ·obtain rfl:a=m:=by omega
    exact hK' b hb k (by omega)
 exact h2 n (Nat.le_refl _)
theorem rd_nat (N : List Int) (i : Nat) : rd N (i : Int) = at1 N i := by simp [rd, at1]
theorem rdL_nat (U : List (List Int)) (i : Nat) : rd_L1 U (i : Int) = U.getD i [] := by simp [rd_L1]
theorem rd_row (U : List (List Int)) (i j : Nat) : at1 (U.getD i []) j = at2 U i j := rfl
end Go.Proofs.Ytndbbbnofmlkdaa.Print
end
section
namespace Go.Proofs.Ytndbbbnofmlkdaa.Print
open Go.RowKit Go.Proofs.YtndbbbnofmlkdaaW.PrintWords Go.Proofs.YtndbbbnofmlkdaaW.PrintLast Go.Proofs.YtndbbbnofmlkdaaW.PrintMore
section
attribute [local go_sem] max2_int min2_int max_two min_two max_three min_three max_four min_four
mutual
def impl_meet.l0 : Nat → List (List Int) → Int → Int → Int → Int → Option (Int)
 | 0, _, _, _, _, _ => none
 | k + 1, x0, x1, x2, x11, x12 => if x12 < x11 then (if 0 ≤ x12 then (if x12 < (x0.length : Int) then (if 0 ≤ x1 then (if x1 < ((rd_L1 x0 x12).length : Int) then (if (rd (rd_L1 x0 x12) x1) = 0 then (impl_meet.j1 k x0 x1 x2 x12 x11 x12 true) else (if 0 ≤ x2 then (if x2 < ((rd_L1 x0 x12).length : Int) then (impl_meet.j1 k x0 x1 x2 x12 x11 x12 ((rd (rd_L1 x0 x12) x2) == 0)) else (none)) else (none))) else (none)) else (none)) else (none)) else (none)) else (some (-1))
def impl_meet.j1 : Nat → List (List Int) → Int → Int → Int → Int → Int → Bool → Option (Int)
 | 0, _, _, _, _, _, _, _ => none
 | k + 1, x0, x1, x2, x7, x11, x12, x32 => if x32 = true then (impl_meet.l0 k x0 x1 x2 x11 (wrap64 (x12 + 1))) else (impl_meet.l1 k x0 x1 x2 x7 true x11 x12 (x0.length : Int) 0)
def impl_meet.l1 : Nat → List (List Int) → Int → Int → Int → Bool → Int → Int → Int → Int → Option (Int)
 | 0, _, _, _, _, _, _, _, _, _ => none
 | k + 1, x0, x1, x2, x7, x8, x11, x12, x34, x35 => if x35 < x34 then (if x8 = true then (if 0 ≤ x35 then (if x35 < (x0.length : Int) then (if 0 ≤ x1 then (if x1 < ((rd_L1 x0 x35).length : Int) then (if (rd (rd_L1 x0 x35) x1) = 0 then (impl_meet.l1 k x0 x1 x2 x7 true x11 x12 x34 (wrap64 (x35 + 1))) else (if 0 ≤ x2 then (if x2 < ((rd_L1 x0 x35).length : Int) then (if (rd (rd_L1 x0 x35) x2) = 0 then (impl_meet.l1 k x0 x1 x2 x7 true x11 x12 x34 (wrap64 (x35 + 1))) else (if 0 ≤ x7 then (if x7 < ((rd_L1 x0 x35).length : Int) then (impl_meet.l1 k x0 x1 x2 x7 ((rd (rd_L1 x0 x35) x7) == 1) x11 x12 x34 (wrap64 (x35 + 1))) else (none)) else (none))) else (none)) else (none))) else (none)) else (none)) else (none)) else (none)) else (impl_meet.l1 k x0 x1 x2 x7 false x11 x12 x34 (wrap64 (x35 + 1)))) else (if x8 = true then (some x7) else (impl_meet.l0 k x0 x1 x2 x11 (wrap64 (x12 + 1))))
end
def impl_meet.f (k : Nat) (l0 : List (List Int)) (a1 : Int) (a2 : Int) : Option (Int) := impl_meet.l0 k l0 a1 a2 (l0.length : Int) 0
set_option maxHeartbeats 8000000 in
set_option maxRecDepth 100000 in
theorem impl_meet.calls (k : Nat) (A0 : Option Addr) (c0 : Nat) (l0 : List (List Int)) (a1 : Int) (a2 : Int) (r : Int) (w : World) (hr0 : Kd.C (Kd.slice 3 (Kd.int .i64)) w A0 l0.length l0) (hc0 : l0.length ≤ c0) (h : impl_meet.f k l0 a1 a2 = some r) :
  Calls Try.prog 53 #[.slice A0 l0.length c0, .int .i64 a1, .int .i64 a2] w fun e w' => e = .returned (.int .i64 r) ∧ Drawn0 w w' := by
 have d3:=zqm hr0;have o7:=zqm hc0;clear hr0 hc0;have H:(impl_meet.l0 k l0 a1 a2 (l0.length:Int) 0)=some r:=h;clear h;have H':=zqm H;clear H
 go_enter Try.func53,Try.ntmps53
 go_wp2
 go_loopg [12] k (fun kq m9 w'=> ∃(a3:Int),m9= .int .i64 a3∧Aside0 (impl_meet.l0 kq l0 a1 a2 (l0.length:Int) a3=some r)∧Aside0 (kq≤k)∧Drawn0 w w')
 case atStart=>exact⟨(0),zq3,H',⟨Nat.le_refl _⟩,zq4⟩
 case round=>
  clear H';obtain⟨a3,rfl,HA,b0,⟨m1,rfl⟩⟩:=hrel
  cases gk with
  |zero=>exact absurd HA.out (by simp [impl_meet.l0])
  |succ k1=>
   have H:=HA.out;clear HA;simp only [impl_meet.l0] at H
   by_cases c4:a3<(l0.length:Int)
   ·rw [if_pos c4] at H;have l4:decide (a3<(l0.length:Int))=true:=decide_eq_true c4;clear c4;have j4:=zqm H;clear H
    go_upto_region 4 with (fail)
    go_cut [32] (fun n0 wc=> ∃(kq:Nat) (d8:Bool),n0= .bool d8∧Aside0 (impl_meet.j1 kq l0 a1 a2 a3 (l0.length:Int) a3 d8=some r)∧Aside0 (kq≤k1)∧Drawn0 w wc)
    case first=>
     have H:=j4.out;clear j4
     by_cases c6:0≤a3
     ·rw [if_pos c6] at H;have j7:decide (0≤a3)=true:=decide_eq_true c6;clear c6;(first|rw [j7]|(simp only [i64_w,i32_w];rw [j7])|skip)
      by_cases c7:a3<(l0.length:Int)
      ·rw [if_pos c7] at H;have o4:decide (a3<(l0.length:Int))=true:=decide_eq_true c7;clear c7
       by_cases c8:0≤a1
       ·rw [if_pos c8] at H;have o5:decide (0≤a1)=true:=decide_eq_true c8;clear c8
        by_cases c9:a1<((rd_L1 l0 a3).length:Int)
        ·rw [if_pos c9] at H;have o6:decide (a1<((rd_L1 l0 a3).length:Int))=true:=decide_eq_true c9;clear c9
         by_cases d9:(rd (rd_L1 l0 a3) a1)=0
         ·rw [if_pos d9] at H;have k5:((rd (rd_L1 l0 a3) a1)==0)=true:=beq_iff_eq.mpr d9;have k6:((rd (rd_L1 l0 a3) a1) !=0)=false:=bne_eq_false_iff_eq.mpr d9;clear d9;have H':=zqm H;clear H;have b9:0≤(a3:Int):=zqo;have c5:a3<(l0.length:Int):=zqo;obtain⟨g8,j2,j5,f6,f1,b4,b2⟩:=at_L1 d3.out a3 b9 c5
          cases f6
          have d5:=zqm b2;have i3:=zqm b4;clear b2 b4;replace b9:=eq_true b9;replace c5:=eq_true c5;have c1:0≤(a1:Int):=zqo;have d0:a1<((rd_L1 l0 a3).length:Int):=zqo;obtain⟨j9,f7,i7⟩:=Kd.at_int d5.out a1 c1 d0
          cases f7
          replace c1:=eq_true c1;replace d0:=eq_true d0
          go_wp2
          go_meet
          case rel=>exact⟨_,(true),zq3,H',⟨by have:=b0.out;first|omega|exact Nat.le_refl _⟩,zq4⟩
         ·rw [if_neg d9] at H;have k5:((rd (rd_L1 l0 a3) a1)==0)=false:=beq_eq_false_iff_ne.mpr d9;have k6:((rd (rd_L1 l0 a3) a1) !=0)=true:=bne_iff_ne.mpr d9
          by_cases h0:0≤a2
          ·rw [if_pos h0] at H;have n4:decide (0≤a2)=true:=decide_eq_true h0;clear h0
           by_cases h1:a2<((rd_L1 l0 a3).length:Int)
           ·rw [if_pos h1] at H;have n5:decide (a2<((rd_L1 l0 a3).length:Int))=true:=decide_eq_true h1;clear h1;have H':=zqm H;clear H;have b9:0≤(a3:Int):=zqo;have c5:a3<(l0.length:Int):=zqo;obtain⟨g8,j2,j5,f6,f1,b4,b2⟩:=at_L1 d3.out a3 b9 c5
            cases f6
            have d5:=zqm b2;have i3:=zqm b4;clear b2 b4;replace b9:=eq_true b9;replace c5:=eq_true c5;have c1:0≤(a1:Int):=zqo;have d0:a1<((rd_L1 l0 a3).length:Int):=zqo;obtain⟨j9,f7,i7⟩:=Kd.at_int d5.out a1 c1 d0
            cases f7
            replace c1:=eq_true c1;replace d0:=eq_true d0;have g0:0≤(a3:Int):=zqo;have g4:a3<(l0.length:Int):=zqo;obtain⟨k0,m5,m7,l5,i8,e9,e7⟩:=at_L1 d3.out a3 g0 g4;obtain rfl:g8=k0:=(by injection l5);have i5:=zqm e7;have l9:=zqm e9;clear e7 e9;replace g0:=eq_true g0;replace g4:=eq_true g4;have ea_:=Option.some.inj (f1.symm.trans i8);injection ea_ with ea_ en_ ec_;subst ea_;subst ec_;clear en_;have g1:0≤(a2:Int):=zqo;have g5:a2<((rd_L1 l0 a3).length:Int):=zqo;obtain⟨n2,l6,m2⟩:=Kd.at_int i5.out a2 g1 g5
            cases l6
            replace g1:=eq_true g1;replace g5:=eq_true g5
            go_wp2
            go_meet
            case rel=>exact⟨_,(((rd (rd_L1 l0 a3) a2)==0)),zq3,H',⟨by have:=b0.out;first|omega|exact Nat.le_refl _⟩,zq4⟩
           ·rw [if_neg h1] at H;exact absurd H (by simp)
          ·rw [if_neg h0] at H;exact absurd H (by simp)
        ·rw [if_neg c9] at H;exact absurd H (by simp)
       ·rw [if_neg c8] at H;exact absurd H (by simp)
      ·rw [if_neg c7] at H;exact absurd H (by simp)
     ·rw [if_neg c6] at H;exact absurd H (by simp)
    case rest=>
     clear j4;obtain⟨kq,d8,rfl,HA,b7,⟨mc4,rfl⟩⟩:=hcut
     cases kq with
     |zero=>exact absurd HA.out (by simp [impl_meet.j1])
     |succ j8=>
      have H:=HA.out;clear HA;simp only [impl_meet.j1] at H
      by_cases h2:d8=true
      ·subst h2;rw [if_pos rfl] at H;have H':=zqm H;clear H
       go_wp2
       go_roundg j8
       (case measure=>have:=b0.out;have:=b7.out;omega);case rel=>exact⟨(wrap64 (a3+1)),zq3,H',⟨by have:=b0.out;have:=b7.out;omega⟩,zq4⟩
      ·replace h2:=Bool.eq_false_iff.mpr h2;subst h2;rw [if_neg (show¬(false=true) by decide)] at H;have H':=zqm H;clear H
       go_wp2
       go_loopg [8,35] j8 (fun kq v8 n1 w'=> ∃(e4:Bool) (a0:Int),v8= .bool e4∧n1= .int .i64 a0∧Aside0 (impl_meet.l1 kq l0 a1 a2 a3 e4 (l0.length:Int) a3 (l0.length:Int) a0=some r)∧Aside0 (kq≤j8)∧Drawn0 w w')
       case atStart=>exact⟨(true),(0),zq3,zq3,H',⟨Nat.le_refl _⟩,zq4⟩
       case round=>
        clear H';obtain⟨e4,a0,rfl,rfl,HA,b8,⟨m3,rfl⟩⟩:=hrel
        cases gk with
        |zero=>exact absurd HA.out (by simp [impl_meet.l1])
        |succ k3=>
         have H:=HA.out;clear HA;simp only [impl_meet.l1] at H
         by_cases e6:a0<(l0.length:Int)
         ·rw [if_pos e6] at H;have k7:decide (a0<(l0.length:Int))=true:=decide_eq_true e6;clear e6
          by_cases h3:e4=true
          ·subst h3;rw [if_pos rfl] at H
           by_cases h4:0≤a0
           ·rw [if_pos h4] at H;have n6:decide (0≤a0)=true:=decide_eq_true h4;clear h4
            by_cases h5:a0<(l0.length:Int)
            ·rw [if_pos h5] at H;have n7:decide (a0<(l0.length:Int))=true:=decide_eq_true h5;clear h5
             by_cases h6:0≤a1
             ·rw [if_pos h6] at H;have n8:decide (0≤a1)=true:=decide_eq_true h6;clear h6
              by_cases h7:a1<((rd_L1 l0 a0).length:Int)
              ·rw [if_pos h7] at H;have n9:decide (a1<((rd_L1 l0 a0).length:Int))=true:=decide_eq_true h7;clear h7
               by_cases e0:(rd (rd_L1 l0 a0) a1)=0
               ·rw [if_pos e0] at H;have k8:((rd (rd_L1 l0 a0) a1)==0)=true:=beq_iff_eq.mpr e0;have k9:((rd (rd_L1 l0 a0) a1) !=0)=false:=bne_eq_false_iff_eq.mpr e0;clear e0;have H':=zqm H;clear H;have a6:0≤(a0:Int):=zqo;have a8:a0<(l0.length:Int):=zqo;obtain⟨d4,f4,f5,e2,b6,a5,a4⟩:=at_L1 d3.out a0 a6 a8
                cases e2
                have b1:=zqm a4;have e5:=zqm a5;clear a4 a5;replace a6:=eq_true a6;replace a8:=eq_true a8;have a7:0≤(a1:Int):=zqo;have a9:a1<((rd_L1 l0 a0).length:Int):=zqo;obtain⟨g9,e3,f2⟩:=Kd.at_int b1.out a1 a7 a9
                cases e3
                replace a7:=eq_true a7;replace a9:=eq_true a9
                go_wp2
                go_roundg k3
                (case measure=> exact zq56);case rel=>exact⟨(true),(wrap64 (a0+1)),zq3,zq3,H',⟨zq56⟩,zq4⟩
               ·rw [if_neg e0] at H;have k8:((rd (rd_L1 l0 a0) a1)==0)=false:=beq_eq_false_iff_ne.mpr e0;have k9:((rd (rd_L1 l0 a0) a1) !=0)=true:=bne_iff_ne.mpr e0
                by_cases h8:0≤a2
                ·rw [if_pos h8] at H;have o0:decide (0≤a2)=true:=decide_eq_true h8;clear h8
                 by_cases h9:a2<((rd_L1 l0 a0).length:Int)
                 ·rw [if_pos h9] at H;have o1:decide (a2<((rd_L1 l0 a0).length:Int))=true:=decide_eq_true h9;clear h9
                  by_cases e1:(rd (rd_L1 l0 a0) a2)=0
                  ·rw [if_pos e1] at H;have l2:((rd (rd_L1 l0 a0) a2)==0)=true:=beq_iff_eq.mpr e1;have l3:((rd (rd_L1 l0 a0) a2) !=0)=false:=bne_eq_false_iff_eq.mpr e1;clear e1;have H':=zqm H;clear H;have a6:0≤(a0:Int):=zqo;have a8:a0<(l0.length:Int):=zqo;obtain⟨d4,f4,f5,e2,b6,a5,a4⟩:=at_L1 d3.out a0 a6 a8
                   cases e2
                   have b1:=zqm a4;have e5:=zqm a5;clear a4 a5;replace a6:=eq_true a6;replace a8:=eq_true a8;have a7:0≤(a1:Int):=zqo;have a9:a1<((rd_L1 l0 a0).length:Int):=zqo;obtain⟨g9,e3,f2⟩:=Kd.at_int b1.out a1 a7 a9
                   cases e3
                   replace a7:=eq_true a7;replace a9:=eq_true a9;have c2:0≤(a0:Int):=zqo;have d1:a0<(l0.length:Int):=zqo;obtain⟨f3,j3,j6,f8,d7,b5,b3⟩:=at_L1 d3.out a0 c2 d1;obtain rfl:d4=f3:=(by injection f8);have d6:=zqm b3;have i4:=zqm b5;clear b3 b5;replace c2:=eq_true c2;replace d1:=eq_true d1;have ea_:=Option.some.inj (b6.symm.trans d7);injection ea_ with ea_ en_ ec_;subst ea_;subst ec_;clear en_;have c3:0≤(a2:Int):=zqo;have d2:a2<((rd_L1 l0 a0).length:Int):=zqo;obtain⟨k2,f9,i9⟩:=Kd.at_int d6.out a2 c3 d2
                   cases f9
                   replace c3:=eq_true c3;replace d2:=eq_true d2
                   go_wp2
                   go_roundg k3
                   (case measure=> exact zq56);case rel=>exact⟨(true),(wrap64 (a0+1)),zq3,zq3,H',⟨zq56⟩,zq4⟩
                  ·rw [if_neg e1] at H;have l2:((rd (rd_L1 l0 a0) a2)==0)=false:=beq_eq_false_iff_ne.mpr e1;have l3:((rd (rd_L1 l0 a0) a2) !=0)=true:=bne_iff_ne.mpr e1
                   by_cases i0:0≤a3
                   ·rw [if_pos i0] at H;have o2:decide (0≤a3)=true:=decide_eq_true i0;clear i0
                    by_cases i1:a3<((rd_L1 l0 a0).length:Int)
                    ·rw [if_pos i1] at H;have o3:decide (a3<((rd_L1 l0 a0).length:Int))=true:=decide_eq_true i1;clear i1;have H':=zqm H;clear H;have a6:0≤(a0:Int):=zqo;have a8:a0<(l0.length:Int):=zqo;obtain⟨d4,f4,f5,e2,b6,a5,a4⟩:=at_L1 d3.out a0 a6 a8
                     cases e2
                     have b1:=zqm a4;have e5:=zqm a5;clear a4 a5;replace a6:=eq_true a6;replace a8:=eq_true a8;have a7:0≤(a1:Int):=zqo;have a9:a1<((rd_L1 l0 a0).length:Int):=zqo;obtain⟨g9,e3,f2⟩:=Kd.at_int b1.out a1 a7 a9
                     cases e3
                     replace a7:=eq_true a7;replace a9:=eq_true a9;have c2:0≤(a0:Int):=zqo;have d1:a0<(l0.length:Int):=zqo;obtain⟨f3,j3,j6,f8,d7,b5,b3⟩:=at_L1 d3.out a0 c2 d1;obtain rfl:d4=f3:=(by injection f8);have d6:=zqm b3;have i4:=zqm b5;clear b3 b5;replace c2:=eq_true c2;replace d1:=eq_true d1;have ea_:=Option.some.inj (b6.symm.trans d7);injection ea_ with ea_ en_ ec_;subst ea_;subst ec_;clear en_;have c3:0≤(a2:Int):=zqo;have d2:a2<((rd_L1 l0 a0).length:Int):=zqo;obtain⟨k2,f9,i9⟩:=Kd.at_int d6.out a2 c3 d2
                     cases f9
                     replace c3:=eq_true c3;replace d2:=eq_true d2;have g2:0≤(a0:Int):=zqo;have g6:a0<(l0.length:Int):=zqo;obtain⟨k4,m6,m8,l7,j0,f0,e8⟩:=at_L1 d3.out a0 g2 g6;obtain rfl:d4=k4:=(by injection l7);have i6:=zqm e8;have m0:=zqm f0;clear e8 f0;replace g2:=eq_true g2;replace g6:=eq_true g6;have ea_:=Option.some.inj (b6.symm.trans j0);injection ea_ with ea_ en_ ec_;subst ea_;subst ec_;clear en_;have g3:0≤(a3:Int):=zqo;have g7:a3<((rd_L1 l0 a0).length:Int):=zqo;obtain⟨n3,l8,m4⟩:=Kd.at_int i6.out a3 g3 g7
                     cases l8
                     replace g3:=eq_true g3;replace g7:=eq_true g7
                     go_wp2
                     go_roundg k3
                     (case measure=> exact zq56);case rel=>exact⟨(((rd (rd_L1 l0 a0) a3)==1)),(wrap64 (a0+1)),zq3,zq3,H',⟨zq56⟩,zq4⟩
                    ·rw [if_neg i1] at H;exact absurd H (by simp)
                   ·rw [if_neg i0] at H;exact absurd H (by simp)
                 ·rw [if_neg h9] at H;exact absurd H (by simp)
                ·rw [if_neg h8] at H;exact absurd H (by simp)
              ·rw [if_neg h7] at H;exact absurd H (by simp)
             ·rw [if_neg h6] at H;exact absurd H (by simp)
            ·rw [if_neg h5] at H;exact absurd H (by simp)
           ·rw [if_neg h4] at H;exact absurd H (by simp)
          ·replace h3:=Bool.eq_false_iff.mpr h3;subst h3;rw [if_neg (show¬(false=true) by decide)] at H;have H':=zqm H;clear H
           go_wp2
           go_roundg k3
           (case measure=> exact zq56);case rel=>exact⟨(false),(wrap64 (a0+1)),zq3,zq3,H',⟨zq56⟩,zq4⟩
         ·rw [if_neg e6] at H;have k7:decide (a0<(l0.length:Int))=false:=decide_eq_false e6;clear e6
          by_cases i2:e4=true
          ·subst i2;rw [if_pos rfl] at H;obtain rfl:=Option.some.inj H
           go_wp2
           go_ret
           exact⟨zq3,zq4⟩
          ·replace i2:=Bool.eq_false_iff.mpr i2;subst i2;rw [if_neg (show¬(false=true) by decide)] at H;have H':=zqm H;clear H
           go_wp2
           go_roundg k3
           (case measure=> exact zq56);case rel=>exact⟨(wrap64 (a3+1)),zq3,H',⟨zq56⟩,zq4⟩
   ·rw [if_neg c4] at H;have l4:decide (a3<(l0.length:Int))=false:=decide_eq_false c4;clear c4;obtain rfl:=Option.some.inj H
    go_wp2
    go_ret
    exact⟨zq3,zq4⟩
end
section
attribute [local go_sem] max2_int min2_int max_two min_two max_three min_three max_four min_four
mutual
def impl_OrderOk.j0 : Nat → List (List Int) → Int → Bool → Option (Bool)
 | 0, _, _, _ => none
 | k + 1, x0, x3, x18 => if x18 = true then (some false) else (impl_OrderOk.l0 k x0 x3 x0 (x0.length : Int) 0)
def impl_OrderOk.l0 : Nat → List (List Int) → Int → List (List Int) → Int → Int → Option (Bool)
 | 0, _, _, _, _, _ => none
 | k + 1, x0, x3, x19, x20, x21 => if x21 < x20 then (if 0 ≤ x21 then (if x21 < (x19.length : Int) then (if ((rd_L1 x19 x21).length : Int) = x3 then (if x21 < ((rd_L1 x19 x21).length : Int) then (impl_OrderOk.j2 k x0 x3 x21 (rd_L1 x19 x21) x19 x20 x21 ((rd (rd_L1 x19 x21) x21) != 1)) else (none)) else (impl_OrderOk.j2 k x0 x3 x21 (rd_L1 x19 x21) x19 x20 x21 true)) else (none)) else (none)) else (impl_OrderOk.l2 k x0 x3 x3 0)
def impl_OrderOk.j2 : Nat → List (List Int) → Int → Int → List Int → List (List Int) → Int → Int → Bool → Option (Bool)
 | 0, _, _, _, _, _, _, _, _ => none
 | k + 1, x0, x3, x4, x5, x19, x20, x21, x36 => if x36 = true then (some false) else (impl_OrderOk.l1 k x0 x3 x4 x19 x20 x21 x5 (x5.length : Int) 0)
def impl_OrderOk.l1 : Nat → List (List Int) → Int → Int → List (List Int) → Int → Int → List Int → Int → Int → Option (Bool)
 | 0, _, _, _, _, _, _, _, _, _ => none
 | k + 1, x0, x3, x4, x19, x20, x21, x37, x38, x39 => if x39 < x38 then (if 0 ≤ x39 then (if x39 < (x37.length : Int) then (if (rd x37 x39) = 0 then (impl_OrderOk.j4 k x0 x3 x4 x39 (rd x37 x39) x19 x20 x21 x37 x38 x39 false) else (impl_OrderOk.j4 k x0 x3 x4 x39 (rd x37 x39) x19 x20 x21 x37 x38 x39 ((rd x37 x39) != 1))) else (none)) else (none)) else (impl_OrderOk.l0 k x0 x3 x19 x20 (wrap64 (x21 + 1)))
def impl_OrderOk.j4 : Nat → List (List Int) → Int → Int → Int → Int → List (List Int) → Int → Int → List Int → Int → Int → Bool → Option (Bool)
 | 0, _, _, _, _, _, _, _, _, _, _, _, _ => none
 | k + 1, x0, x3, x4, x6, x7, x19, x20, x21, x37, x38, x39, x49 => if x49 = true then (some false) else (if 0 ≤ x6 then (if x6 < (x0.length : Int) then (if ((rd_L1 x0 x6).length : Int) = x3 then (if x7 = 1 then (if x4 = x6 then (impl_OrderOk.l1 k x0 x3 x4 x19 x20 x21 x37 x38 (wrap64 (x39 + 1))) else (if 0 ≤ x4 then (if x4 < ((rd_L1 x0 x6).length : Int) then (if (rd (rd_L1 x0 x6) x4) = 1 then (some false) else (impl_OrderOk.l1 k x0 x3 x4 x19 x20 x21 x37 x38 (wrap64 (x39 + 1)))) else (none)) else (none))) else (impl_OrderOk.l1 k x0 x3 x4 x19 x20 x21 x37 x38 (wrap64 (x39 + 1)))) else (some false)) else (none)) else (none))
def impl_OrderOk.l2 : Nat → List (List Int) → Int → Int → Int → Option (Bool)
 | 0, _, _, _, _ => none
 | k + 1, x0, x3, x78, x79 => if x79 < x78 then (impl_OrderOk.l3 k x0 x3 x79 x78 x79 x3 0) else (some true)
def impl_OrderOk.l3 : Nat → List (List Int) → Int → Int → Int → Int → Int → Int → Option (Bool)
 | 0, _, _, _, _, _, _, _ => none
 | k + 1, x0, x3, x8, x78, x79, x82, x83 => if x83 < x82 then (impl_OrderOk.l4 k x0 x3 x8 x83 x78 x79 x82 x83 x3 0) else (impl_OrderOk.l2 k x0 x3 x78 (wrap64 (x79 + 1)))
def impl_OrderOk.l4 : Nat → List (List Int) → Int → Int → Int → Int → Int → Int → Int → Int → Int → Option (Bool)
 | 0, _, _, _, _, _, _, _, _, _, _ => none
 | k + 1, x0, x3, x8, x9, x78, x79, x82, x83, x86, x87 => if x87 < x86 then (if 0 ≤ x8 then (if x8 < (x0.length : Int) then (if 0 ≤ x9 then (if x9 < ((rd_L1 x0 x8).length : Int) then (if (rd (rd_L1 x0 x8) x9) = 1 then (if x9 < (x0.length : Int) then (if 0 ≤ x87 then (if x87 < ((rd_L1 x0 x9).length : Int) then (if (rd (rd_L1 x0 x9) x87) = 1 then (if x87 < ((rd_L1 x0 x8).length : Int) then (if (rd (rd_L1 x0 x8) x87) = 1 then (impl_OrderOk.l4 k x0 x3 x8 x9 x78 x79 x82 x83 x86 (wrap64 (x87 + 1))) else (some false)) else (none)) else (impl_OrderOk.l4 k x0 x3 x8 x9 x78 x79 x82 x83 x86 (wrap64 (x87 + 1)))) else (none)) else (none)) else (none)) else (impl_OrderOk.l4 k x0 x3 x8 x9 x78 x79 x82 x83 x86 (wrap64 (x87 + 1)))) else (none)) else (none)) else (none)) else (none)) else (impl_OrderOk.l3 k x0 x3 x8 x78 x79 x82 (wrap64 (x83 + 1)))
end
def impl_OrderOk.f (k : Nat) (l0 : List (List Int)) : Option (Bool) := if (l0.length : Int) < 1 then (impl_OrderOk.j0 k l0 (l0.length : Int) true) else (impl_OrderOk.j0 k l0 (l0.length : Int) (decide ((l0.length : Int) > 12)))
set_option maxHeartbeats 8000000 in
set_option maxRecDepth 100000 in
theorem impl_OrderOk.calls (k : Nat) (A0 : Option Addr) (c0 : Nat) (l0 : List (List Int)) (r : Bool) (w : World) (hr0 : Kd.C (Kd.slice 3 (Kd.int .i64)) w A0 l0.length l0) (hc0 : l0.length ≤ c0) (h : impl_OrderOk.f k l0 = some r) :
  Calls Try.prog 56 #[.slice A0 l0.length c0] w fun e w' => e = .returned (.bool r) ∧ Drawn0 w w' := by
 have c2:=zqm hr0;have w2:=zqm hc0;clear hr0 hc0;have H:(if(l0.length:Int)<1 then(impl_OrderOk.j0 k l0 (l0.length:Int) true) else(impl_OrderOk.j0 k l0 (l0.length:Int) (decide ((l0.length:Int)>12))))=some r:=h;clear h;have p4:=zqm H;clear H
 go_enter Try.func56,Try.ntmps56
 go_upto_region 2 with (fail)
 go_cut [18] (fun t5 wc=> ∃(kq:Nat) (h2:Bool),t5= .bool h2∧Aside0 (impl_OrderOk.j0 kq l0 (l0.length:Int) h2=some r)∧Aside0 (kq≤k)∧Drawn0 w wc)
 case first=>
  have H:=p4.out;clear p4
  by_cases c3:(l0.length:Int)<1
  ·rw [if_pos c3] at H;have i3:decide ((l0.length:Int)<1)=true:=decide_eq_true c3;have s2:decide (l0.length<1)=true:=decide_eq_true (by omega);clear c3;(first|rw [i3]|(simp only [i64_w,i32_w];rw [i3])|skip);have H':=zqm H;clear H
   go_wp2
   go_meet
   case rel=>exact⟨_,(true),zq3,H',⟨zq108⟩,zq4⟩
  ·rw [if_neg c3] at H;have i3:decide ((l0.length:Int)<1)=false:=decide_eq_false c3;have s2:decide (l0.length<1)=false:=decide_eq_false (by omega);clear c3;(first|rw [i3]|(simp only [i64_w,i32_w];rw [i3])|skip);have H':=zqm H;clear H
   go_wp2
   go_meet
   case rel=>exact⟨_,(decide ((l0.length:Int)>12)),zq3,H',⟨zq108⟩,zq4⟩
 case rest=>
  clear p4;obtain⟨kq,h2,rfl,HA,b1,⟨mc1,rfl⟩⟩:=hcut
  cases kq with
  |zero=>exact absurd HA.out (by simp [impl_OrderOk.j0])
  |succ s0=>
   have H:=HA.out;clear HA;simp only [impl_OrderOk.j0] at H
   by_cases c4:h2=true
   ·subst c4;rw [if_pos rfl] at H;obtain rfl:=Option.some.inj H
    go_wp2
    go_ret
    exact⟨zq3,zq4⟩
   ·replace c4:=Bool.eq_false_iff.mpr c4;subst c4;rw [if_neg (show¬(false=true) by decide)] at H;have H':=zqm H;clear H
    go_wp2
    go_loopg [21] s0 (fun kq t6 w'=> ∃(a0:Int),t6= .int .i64 a0∧Aside0 (impl_OrderOk.l0 kq l0 (l0.length:Int) l0 (l0.length:Int) a0=some r)∧Aside0 (kq≤s0)∧Drawn0 w w')
    case atStart=>exact⟨(0),zq3,H',⟨Nat.le_refl _⟩,zq4⟩
    case round=>
     clear H';obtain⟨a0,rfl,HA,b2,⟨m2,rfl⟩⟩:=hrel
     cases gk with
     |zero=>exact absurd HA.out (by simp [impl_OrderOk.l0])
     |succ k2=>
      have H:=HA.out;clear HA;simp only [impl_OrderOk.l0] at H
      by_cases c5:a0<(l0.length:Int)
      ·rw [if_pos c5] at H;have s3:decide (a0<(l0.length:Int))=true:=decide_eq_true c5;clear c5
       by_cases c6:0≤a0
       ·rw [if_pos c6] at H;have w0:decide (0≤a0)=true:=decide_eq_true c6;clear c6
        by_cases c7:a0<(l0.length:Int)
        ·rw [if_pos c7] at H;have w1:decide (a0<(l0.length:Int))=true:=decide_eq_true c7;clear c7;have p5:=zqm H;clear H;have m0:0≤(a0:Int):=zqo;have m7:a0<(l0.length:Int):=zqo;obtain⟨e2,t3,t4,s6,t0,j7,j6⟩:=at_L1 c2.out a0 m0 m7
         cases s6
         have i8:=zqm j6;have s9:=zqm j7;clear j6 j7;replace m0:=eq_true m0;replace m7:=eq_true m7
         go_upto_region 7 with (fail)
         go_cut [36] (fun t7 wc=> ∃(kq:Nat) (h3:Bool),t7= .bool h3∧Aside0 (impl_OrderOk.j2 kq l0 (l0.length:Int) a0 (rd_L1 l0 a0) l0 (l0.length:Int) a0 h3=some r)∧Aside0 (kq≤k2)∧Drawn0 w wc)
         case first=>
          have H:=p5.out;clear p5
          by_cases c9:((rd_L1 l0 a0).length:Int)=(l0.length:Int)
          ·rw [if_pos c9] at H;have i4:(((rd_L1 l0 a0).length:Int)==(l0.length:Int))=true:=beq_iff_eq.mpr c9;have s4:(((rd_L1 l0 a0).length:Int) !=(l0.length:Int))=false:=bne_eq_false_iff_eq.mpr c9;(have s5:((rd_L1 l0 a0).length==l0.length)=true:=by first|simpa using c9|(simp at c9 ⊢;omega));clear c9;(first|rw [i4]|(simp only [i64_w,i32_w];rw [i4])|skip)
           by_cases n1:a0<((rd_L1 l0 a0).length:Int)
           ·rw [if_pos n1] at H;have u5:decide (a0<((rd_L1 l0 a0).length:Int))=true:=decide_eq_true n1;clear n1;have H':=zqm H;clear H;have m1:0≤(a0:Int):=zqo;have m8:a0<((rd_L1 l0 a0).length:Int):=zqo;obtain⟨u3,s7,t1⟩:=Kd.at_int i8.out a0 m1 m8
            cases s7
            replace m1:=eq_true m1;replace m8:=eq_true m8
            go_wp2
            go_meet
            case rel=>exact⟨_,(((rd (rd_L1 l0 a0) a0) !=1)),zq3,H',⟨by have:=b1.out;have:=b2.out;first|omega|exact Nat.le_refl _⟩,zq4⟩
           ·rw [if_neg n1] at H;exact absurd H (by simp)
          ·rw [if_neg c9] at H;have i4:(((rd_L1 l0 a0).length:Int)==(l0.length:Int))=false:=beq_eq_false_iff_ne.mpr c9;have s4:(((rd_L1 l0 a0).length:Int) !=(l0.length:Int))=true:=bne_iff_ne.mpr c9;(have s5:((rd_L1 l0 a0).length==l0.length)=false:=by first|simpa using c9|(simp at c9 ⊢;omega));(first|rw [i4]|(simp only [i64_w,i32_w];rw [i4])|skip);have H':=zqm H;clear H
           go_wp2
           go_meet
           case rel=>exact⟨_,(true),zq3,H',⟨by have:=b1.out;have:=b2.out;first|omega|exact Nat.le_refl _⟩,zq4⟩
         case rest=>
          clear p5;obtain⟨kq,h3,rfl,HA,e7,⟨mc7,rfl⟩⟩:=hcut
          cases kq with
          |zero=>exact absurd HA.out (by simp [impl_OrderOk.j2])
          |succ s1=>
           have H:=HA.out;clear HA;simp only [impl_OrderOk.j2] at H
           by_cases n2:h3=true
           ·subst n2;rw [if_pos rfl] at H;obtain rfl:=Option.some.inj H
            go_wp2
            go_ret
            exact⟨zq3,zq4⟩
           ·replace n2:=Bool.eq_false_iff.mpr n2;subst n2;rw [if_neg (show¬(false=true) by decide)] at H;have H':=zqm H;clear H
            go_wp2
            go_loopg [39] s1 (fun kq t8 w'=> ∃(a1:Int),t8= .int .i64 a1∧Aside0 (impl_OrderOk.l1 kq l0 (l0.length:Int) a0 l0 (l0.length:Int) a0 (rd_L1 l0 a0) ((rd_L1 l0 a0).length:Int) a1=some r)∧Aside0 (kq≤s1)∧Drawn0 w w')
            case atStart=>exact⟨(0),zq3,H',⟨Nat.le_refl _⟩,zq4⟩
            case round=>
             clear H';obtain⟨a1,rfl,HA,b3,⟨m4,rfl⟩⟩:=hrel
             cases gk with
             |zero=>exact absurd HA.out (by simp [impl_OrderOk.l1])
             |succ k4=>
              have H:=HA.out;clear HA;simp only [impl_OrderOk.l1] at H
              by_cases i9:a1<((rd_L1 l0 a0).length:Int)
              ·rw [if_pos i9] at H;have q0:decide (a1<((rd_L1 l0 a0).length:Int))=true:=decide_eq_true i9;clear i9
               by_cases n3:0≤a1
               ·rw [if_pos n3] at H;have u6:decide (0≤a1)=true:=decide_eq_true n3;clear n3
                by_cases n4:a1<((rd_L1 l0 a0).length:Int)
                ·rw [if_pos n4] at H;have u7:decide (a1<((rd_L1 l0 a0).length:Int))=true:=decide_eq_true n4;clear n4;have k9:=zqm H;clear H;have m6:0≤(a1:Int):=zqo;have m9:a1<((rd_L1 l0 a0).length:Int):=zqo;obtain⟨u4,s8,t2⟩:=Kd.at_int i8.out a1 m6 m9
                 cases s8
                 replace m6:=eq_true m6;replace m9:=eq_true m9
                 go_upto_region 12 with (fail)
                 go_cut [49] (fun t9 wc=> ∃(kq:Nat) (g3:Bool),t9= .bool g3∧Aside0 (impl_OrderOk.j4 kq l0 (l0.length:Int) a0 a1 (rd (rd_L1 l0 a0) a1) l0 (l0.length:Int) a0 (rd_L1 l0 a0) ((rd_L1 l0 a0).length:Int) a1 g3=some r)∧Aside0 (kq≤k4)∧Drawn0 w wc)
                 case first=>
                  have H:=k9.out;clear k9
                  by_cases h5:(rd (rd_L1 l0 a0) a1)=0
                  ·rw [if_pos h5] at H;have g1:((rd (rd_L1 l0 a0) a1)==0)=true:=beq_iff_eq.mpr h5;have q1:((rd (rd_L1 l0 a0) a1) !=0)=false:=bne_eq_false_iff_eq.mpr h5;clear h5;(first|rw [g1]|(simp only [i64_w,i32_w];rw [g1])|skip);have H':=zqm H;clear H
                   go_wp2
                   go_meet
                   case rel=>exact⟨_,(false),zq3,H',⟨zq89⟩,zq4⟩
                  ·rw [if_neg h5] at H;have g1:((rd (rd_L1 l0 a0) a1)==0)=false:=beq_eq_false_iff_ne.mpr h5;have q1:((rd (rd_L1 l0 a0) a1) !=0)=true:=bne_iff_ne.mpr h5;(first|rw [g1]|(simp only [i64_w,i32_w];rw [g1])|skip);have H':=zqm H;clear H
                   go_wp2
                   go_meet
                   case rel=>exact⟨_,(((rd (rd_L1 l0 a0) a1) !=1)),zq3,H',⟨zq89⟩,zq4⟩
                 case rest=>
                  clear k9;obtain⟨kq,g3,rfl,HA,g5,⟨mc14,rfl⟩⟩:=hcut
                  cases kq with
                  |zero=>exact absurd HA.out (by simp [impl_OrderOk.j4])
                  |succ l9=>
                   have H:=HA.out;clear HA;simp only [impl_OrderOk.j4] at H
                   by_cases n5:g3=true
                   ·subst n5;rw [if_pos rfl] at H;obtain rfl:=Option.some.inj H
                    go_wp2
                    go_ret
                    exact⟨zq3,zq4⟩
                   ·replace n5:=Bool.eq_false_iff.mpr n5;subst n5;rw [if_neg (show¬(false=true) by decide)] at H
                    by_cases n6:0≤a1
                    ·rw [if_pos n6] at H;have u8:decide (0≤a1)=true:=decide_eq_true n6;clear n6
                     by_cases n7:a1<(l0.length:Int)
                     ·rw [if_pos n7] at H;have u9:decide (a1<(l0.length:Int))=true:=decide_eq_true n7;clear n7
                      by_cases e4:((rd_L1 l0 a1).length:Int)=(l0.length:Int)
                      ·rw [if_pos e4] at H;have q2:(((rd_L1 l0 a1).length:Int)==(l0.length:Int))=true:=beq_iff_eq.mpr e4;have q3:(((rd_L1 l0 a1).length:Int) !=(l0.length:Int))=false:=bne_eq_false_iff_eq.mpr e4;(have q4:((rd_L1 l0 a1).length==l0.length)=true:=by first|simpa using e4|(simp at e4 ⊢;omega));clear e4
                       by_cases h6:(rd (rd_L1 l0 a0) a1)=1
                       ·rw [if_pos h6] at H;have q5:((rd (rd_L1 l0 a0) a1)==1)=true:=beq_iff_eq.mpr h6;have q6:((rd (rd_L1 l0 a0) a1) !=1)=false:=bne_eq_false_iff_eq.mpr h6;clear h6
                        by_cases h7:a0=a1
                        ·rw [if_pos h7] at H;have q7:(a0==a1)=true:=beq_iff_eq.mpr h7;have q8:(a0 !=a1)=false:=bne_eq_false_iff_eq.mpr h7;clear h7;have H':=zqm H;clear H;have a9:0≤(a1:Int):=zqo;have b0:a1<(l0.length:Int):=zqo;obtain⟨c8,f9,g2,e3,d0,a6,a5⟩:=at_L1 c2.out a1 a9 b0;obtain rfl:e2=c8:=(by injection e3);have e6:=zqm a5;have e5:=zqm a6;clear a5 a6;replace a9:=eq_true a9;replace b0:=eq_true b0
                         go_wp2
                         go_roundg l9
                         (case measure=> exact zq58);case rel=>exact⟨(wrap64 (a1+1)),zq3,H',⟨zq58⟩,zq4⟩
                        ·rw [if_neg h7] at H;have q7:(a0==a1)=false:=beq_eq_false_iff_ne.mpr h7;have q8:(a0 !=a1)=true:=bne_iff_ne.mpr h7
                         by_cases n8:0≤a0
                         ·rw [if_pos n8] at H;have v0:decide (0≤a0)=true:=decide_eq_true n8;clear n8
                          by_cases n9:a0<((rd_L1 l0 a1).length:Int)
                          ·rw [if_pos n9] at H;have v1:decide (a0<((rd_L1 l0 a1).length:Int))=true:=decide_eq_true n9;clear n9
                           by_cases h8:(rd (rd_L1 l0 a1) a0)=1
                           ·rw [if_pos h8] at H;have q9:((rd (rd_L1 l0 a1) a0)==1)=true:=beq_iff_eq.mpr h8;have r0:((rd (rd_L1 l0 a1) a0) !=1)=false:=bne_eq_false_iff_eq.mpr h8;clear h8;obtain rfl:=Option.some.inj H;have a9:0≤(a1:Int):=zqo;have b0:a1<(l0.length:Int):=zqo;obtain⟨c8,f9,g2,e3,d0,a6,a5⟩:=at_L1 c2.out a1 a9 b0;obtain rfl:e2=c8:=(by injection e3);have e6:=zqm a5;have e5:=zqm a6;clear a5 a6;replace a9:=eq_true a9;replace b0:=eq_true b0;have f1:0≤(a1:Int):=zqo;have f5:a1<(l0.length:Int):=zqo;obtain⟨k0,p2,p6,l5,g8,d9,d7⟩:=at_L1 c2.out a1 f1 f5;obtain rfl:e2=k0:=(by injection l5);have g6:=zqm d7;have o8:=zqm d9;clear d7 d9;replace f1:=eq_true f1;replace f5:=eq_true f5;have ea_:=Option.some.inj (d0.symm.trans g8);injection ea_ with ea_ en_ ec_;subst ea_;subst ec_;clear en_;have f2:0≤(a0:Int):=zqo;have f6:a0<((rd_L1 l0 a1).length:Int):=zqo;obtain⟨p8,l6,p0⟩:=Kd.at_int g6.out a0 f2 f6
                            cases l6
                            replace f2:=eq_true f2;replace f6:=eq_true f6
                            go_wp2
                            go_ret
                            exact⟨zq3,zq4⟩
                           ·rw [if_neg h8] at H;have q9:((rd (rd_L1 l0 a1) a0)==1)=false:=beq_eq_false_iff_ne.mpr h8;have r0:((rd (rd_L1 l0 a1) a0) !=1)=true:=bne_iff_ne.mpr h8;have H':=zqm H;clear H;have a9:0≤(a1:Int):=zqo;have b0:a1<(l0.length:Int):=zqo;obtain⟨c8,f9,g2,e3,d0,a6,a5⟩:=at_L1 c2.out a1 a9 b0;obtain rfl:e2=c8:=(by injection e3);have e6:=zqm a5;have e5:=zqm a6;clear a5 a6;replace a9:=eq_true a9;replace b0:=eq_true b0;have f1:0≤(a1:Int):=zqo;have f5:a1<(l0.length:Int):=zqo;obtain⟨k0,p2,p6,l5,g8,d9,d7⟩:=at_L1 c2.out a1 f1 f5;obtain rfl:e2=k0:=(by injection l5);have g6:=zqm d7;have o8:=zqm d9;clear d7 d9;replace f1:=eq_true f1;replace f5:=eq_true f5;have ea_:=Option.some.inj (d0.symm.trans g8);injection ea_ with ea_ en_ ec_;subst ea_;subst ec_;clear en_;have f2:0≤(a0:Int):=zqo;have f6:a0<((rd_L1 l0 a1).length:Int):=zqo;obtain⟨p8,l6,p0⟩:=Kd.at_int g6.out a0 f2 f6
                            cases l6
                            replace f2:=eq_true f2;replace f6:=eq_true f6
                            go_wp2
                            go_roundg l9
                            (case measure=> exact zq58);case rel=>exact⟨(wrap64 (a1+1)),zq3,H',⟨zq58⟩,zq4⟩
                          ·rw [if_neg n9] at H;exact absurd H (by simp)
                         ·rw [if_neg n8] at H;exact absurd H (by simp)
                       ·rw [if_neg h6] at H;have q5:((rd (rd_L1 l0 a0) a1)==1)=false:=beq_eq_false_iff_ne.mpr h6;have q6:((rd (rd_L1 l0 a0) a1) !=1)=true:=bne_iff_ne.mpr h6;have H':=zqm H;clear H;have a9:0≤(a1:Int):=zqo;have b0:a1<(l0.length:Int):=zqo;obtain⟨c8,f9,g2,e3,d0,a6,a5⟩:=at_L1 c2.out a1 a9 b0;obtain rfl:e2=c8:=(by injection e3);have e6:=zqm a5;have e5:=zqm a6;clear a5 a6;replace a9:=eq_true a9;replace b0:=eq_true b0
                        go_wp2
                        go_roundg l9
                        (case measure=> exact zq58);case rel=>exact⟨(wrap64 (a1+1)),zq3,H',⟨zq58⟩,zq4⟩
                      ·rw [if_neg e4] at H;have q2:(((rd_L1 l0 a1).length:Int)==(l0.length:Int))=false:=beq_eq_false_iff_ne.mpr e4;have q3:(((rd_L1 l0 a1).length:Int) !=(l0.length:Int))=true:=bne_iff_ne.mpr e4;(have q4:((rd_L1 l0 a1).length==l0.length)=false:=by first|simpa using e4|(simp at e4 ⊢;omega));obtain rfl:=Option.some.inj H;have a9:0≤(a1:Int):=zqo;have b0:a1<(l0.length:Int):=zqo;obtain⟨c8,f9,g2,e3,d0,a6,a5⟩:=at_L1 c2.out a1 a9 b0;obtain rfl:e2=c8:=(by injection e3);have e6:=zqm a5;have e5:=zqm a6;clear a5 a6;replace a9:=eq_true a9;replace b0:=eq_true b0
                       go_wp2
                       go_ret
                       exact⟨zq3,zq4⟩
                     ·rw [if_neg n7] at H;exact absurd H (by simp)
                    ·rw [if_neg n6] at H;exact absurd H (by simp)
                ·rw [if_neg n4] at H;exact absurd H (by simp)
               ·rw [if_neg n3] at H;exact absurd H (by simp)
              ·rw [if_neg i9] at H;have q0:decide (a1<((rd_L1 l0 a0).length:Int))=false:=decide_eq_false i9;clear i9;have H':=zqm H;clear H
               go_wp2
               go_roundg k4
               (case measure=>have:=b1.out;have:=b2.out;have:=e7.out;have:=b3.out;omega);case rel=>exact⟨(wrap64 (a0+1)),zq3,H',⟨by have:=b1.out;have:=b2.out;have:=e7.out;have:=b3.out;omega⟩,zq4⟩
        ·rw [if_neg c7] at H;exact absurd H (by simp)
       ·rw [if_neg c6] at H;exact absurd H (by simp)
      ·rw [if_neg c5] at H;have s3:decide (a0<(l0.length:Int))=false:=decide_eq_false c5;clear c5;have H':=zqm H;clear H
       go_wp2
       go_loopg [79] k2 (fun kq u0 w'=> ∃(a2:Int),u0= .int .i64 a2∧Aside0 (impl_OrderOk.l2 kq l0 (l0.length:Int) (l0.length:Int) a2=some r)∧Aside0 (kq≤k2)∧Drawn0 w w')
       case atStart=>exact⟨(0),zq3,H',⟨Nat.le_refl _⟩,zq4⟩
       case round=>
        clear H';obtain⟨a2,rfl,HA,e8,⟨m3,rfl⟩⟩:=hrel
        cases gk with
        |zero=>exact absurd HA.out (by simp [impl_OrderOk.l2])
        |succ k3=>
         have H:=HA.out;clear HA;simp only [impl_OrderOk.l2] at H
         by_cases j1:a2<(l0.length:Int)
         ·rw [if_pos j1] at H;have r1:decide (a2<(l0.length:Int))=true:=decide_eq_true j1;clear j1;have H':=zqm H;clear H
          go_wp2
          go_loopg [83] k3 (fun kq u1 w'=> ∃(a3:Int),u1= .int .i64 a3∧Aside0 (impl_OrderOk.l3 kq l0 (l0.length:Int) a2 (l0.length:Int) a2 (l0.length:Int) a3=some r)∧Aside0 (kq≤k3)∧Drawn0 w w')
          case atStart=>exact⟨(0),zq3,H',⟨Nat.le_refl _⟩,zq4⟩
          case round=>
           clear H';obtain⟨a3,rfl,HA,b3,⟨m4,rfl⟩⟩:=hrel
           cases gk with
           |zero=>exact absurd HA.out (by simp [impl_OrderOk.l3])
           |succ k4=>
            have H:=HA.out;clear HA;simp only [impl_OrderOk.l3] at H
            by_cases j3:a3<(l0.length:Int)
            ·rw [if_pos j3] at H;have r2:decide (a3<(l0.length:Int))=true:=decide_eq_true j3;clear j3;have H':=zqm H;clear H
             go_wp2
             go_loopg [87] k4 (fun kq u2 w'=> ∃(a4:Int),u2= .int .i64 a4∧Aside0 (impl_OrderOk.l4 kq l0 (l0.length:Int) a2 a3 (l0.length:Int) a2 (l0.length:Int) a3 (l0.length:Int) a4=some r)∧Aside0 (kq≤k4)∧Drawn0 w w')
             case atStart=>exact⟨(0),zq3,H',⟨Nat.le_refl _⟩,zq4⟩
             case round=>
              clear H';obtain⟨a4,rfl,HA,h1,⟨m5,rfl⟩⟩:=hrel
              cases gk with
              |zero=>exact absurd HA.out (by simp [impl_OrderOk.l4])
              |succ k5=>
               have H:=HA.out;clear HA;simp only [impl_OrderOk.l4] at H
               by_cases j5:a4<(l0.length:Int)
               ·rw [if_pos j5] at H;have r3:decide (a4<(l0.length:Int))=true:=decide_eq_true j5;clear j5
                by_cases o0:0≤a2
                ·rw [if_pos o0] at H;have v2:decide (0≤a2)=true:=decide_eq_true o0;clear o0
                 by_cases o1:a2<(l0.length:Int)
                 ·rw [if_pos o1] at H;have v3:decide (a2<(l0.length:Int))=true:=decide_eq_true o1;clear o1
                  by_cases o2:0≤a3
                  ·rw [if_pos o2] at H;have v4:decide (0≤a3)=true:=decide_eq_true o2;clear o2
                   by_cases o3:a3<((rd_L1 l0 a2).length:Int)
                   ·rw [if_pos o3] at H;have v5:decide (a3<((rd_L1 l0 a2).length:Int))=true:=decide_eq_true o3;clear o3
                    by_cases h9:(rd (rd_L1 l0 a2) a3)=1
                    ·rw [if_pos h9] at H;have r4:((rd (rd_L1 l0 a2) a3)==1)=true:=beq_iff_eq.mpr h9;have r5:((rd (rd_L1 l0 a2) a3) !=1)=false:=bne_eq_false_iff_eq.mpr h9;clear h9
                     by_cases o4:a3<(l0.length:Int)
                     ·rw [if_pos o4] at H;have v6:decide (a3<(l0.length:Int))=true:=decide_eq_true o4;clear o4
                      by_cases o5:0≤a4
                      ·rw [if_pos o5] at H;have v7:decide (0≤a4)=true:=decide_eq_true o5;clear o5
                       by_cases o6:a4<((rd_L1 l0 a3).length:Int)
                       ·rw [if_pos o6] at H;have v8:decide (a4<((rd_L1 l0 a3).length:Int))=true:=decide_eq_true o6;clear o6
                        by_cases i1:(rd (rd_L1 l0 a3) a4)=1
                        ·rw [if_pos i1] at H;have r6:((rd (rd_L1 l0 a3) a4)==1)=true:=beq_iff_eq.mpr i1;have r7:((rd (rd_L1 l0 a3) a4) !=1)=false:=bne_eq_false_iff_eq.mpr i1;clear i1
                         by_cases o7:a4<((rd_L1 l0 a2).length:Int)
                         ·rw [if_pos o7] at H;have v9:decide (a4<((rd_L1 l0 a2).length:Int))=true:=decide_eq_true o7;clear o7
                          by_cases i2:(rd (rd_L1 l0 a2) a4)=1
                          ·rw [if_pos i2] at H;have r8:((rd (rd_L1 l0 a2) a4)==1)=true:=beq_iff_eq.mpr i2;have r9:((rd (rd_L1 l0 a2) a4) !=1)=false:=bne_eq_false_iff_eq.mpr i2;clear i2;have H':=zqm H;clear H;have b4:0≤(a2:Int):=zqo;have b6:a2<(l0.length:Int):=zqo;obtain⟨d5,h4,i0,e9,e1,a8,a7⟩:=at_L1 c2.out a2 b4 b6
                           cases e9
                           have c1:=zqm a7;have g4:=zqm a8;clear a7 a8;replace b4:=eq_true b4;replace b6:=eq_true b6;have b5:0≤(a3:Int):=zqo;have b7:a3<((rd_L1 l0 a2).length:Int):=zqo;obtain⟨k1,f0,g9⟩:=Kd.at_int c1.out a3 b5 b7
                           cases f0
                           replace b5:=eq_true b5;replace b7:=eq_true b7;have d1:0≤(a3:Int):=zqo;have d3:a3<(l0.length:Int):=zqo;obtain⟨g0,k7,k8,i5,j8,b9,b8⟩:=at_L1 c2.out a3 d1 d3;obtain rfl:d5=g0:=(by injection i5);have d6:=zqm b8;have i7:=zqm b9;clear b8 b9;replace d1:=eq_true d1;replace d3:=eq_true d3;have d2:0≤(a4:Int):=zqo;have d4:a4<((rd_L1 l0 a3).length:Int):=zqo;obtain⟨n0,i6,j9⟩:=Kd.at_int d6.out a4 d2 d4
                           cases i6
                           replace d2:=eq_true d2;replace d4:=eq_true d4;have f3:0≤(a2:Int):=zqo;have f7:a2<(l0.length:Int):=zqo;obtain⟨k6,p3,p7,l7,h0,e0,d8⟩:=at_L1 c2.out a2 f3 f7;obtain rfl:d5=k6:=(by injection l7);have g7:=zqm d8;have o9:=zqm e0;clear d8 e0;replace f3:=eq_true f3;replace f7:=eq_true f7;have ea_:=Option.some.inj (e1.symm.trans h0);injection ea_ with ea_ en_ ec_;subst ea_;subst ec_;clear en_;have f4:0≤(a4:Int):=zqo;have f8:a4<((rd_L1 l0 a2).length:Int):=zqo;obtain⟨p9,l8,p1⟩:=Kd.at_int g7.out a4 f4 f8
                           cases l8
                           replace f4:=eq_true f4;replace f8:=eq_true f8
                           go_wp2
                           go_roundg k5
                           (case measure=> exact zq39);case rel=>exact⟨(wrap64 (a4+1)),zq3,H',⟨zq39⟩,zq4⟩
                          ·rw [if_neg i2] at H;have r8:((rd (rd_L1 l0 a2) a4)==1)=false:=beq_eq_false_iff_ne.mpr i2;have r9:((rd (rd_L1 l0 a2) a4) !=1)=true:=bne_iff_ne.mpr i2;obtain rfl:=Option.some.inj H;have b4:0≤(a2:Int):=zqo;have b6:a2<(l0.length:Int):=zqo;obtain⟨d5,h4,i0,e9,e1,a8,a7⟩:=at_L1 c2.out a2 b4 b6
                           cases e9
                           have c1:=zqm a7;have g4:=zqm a8;clear a7 a8;replace b4:=eq_true b4;replace b6:=eq_true b6;have b5:0≤(a3:Int):=zqo;have b7:a3<((rd_L1 l0 a2).length:Int):=zqo;obtain⟨k1,f0,g9⟩:=Kd.at_int c1.out a3 b5 b7
                           cases f0
                           replace b5:=eq_true b5;replace b7:=eq_true b7;have d1:0≤(a3:Int):=zqo;have d3:a3<(l0.length:Int):=zqo;obtain⟨g0,k7,k8,i5,j8,b9,b8⟩:=at_L1 c2.out a3 d1 d3;obtain rfl:d5=g0:=(by injection i5);have d6:=zqm b8;have i7:=zqm b9;clear b8 b9;replace d1:=eq_true d1;replace d3:=eq_true d3;have d2:0≤(a4:Int):=zqo;have d4:a4<((rd_L1 l0 a3).length:Int):=zqo;obtain⟨n0,i6,j9⟩:=Kd.at_int d6.out a4 d2 d4
                           cases i6
                           replace d2:=eq_true d2;replace d4:=eq_true d4;have f3:0≤(a2:Int):=zqo;have f7:a2<(l0.length:Int):=zqo;obtain⟨k6,p3,p7,l7,h0,e0,d8⟩:=at_L1 c2.out a2 f3 f7;obtain rfl:d5=k6:=(by injection l7);have g7:=zqm d8;have o9:=zqm e0;clear d8 e0;replace f3:=eq_true f3;replace f7:=eq_true f7;have ea_:=Option.some.inj (e1.symm.trans h0);injection ea_ with ea_ en_ ec_;subst ea_;subst ec_;clear en_;have f4:0≤(a4:Int):=zqo;have f8:a4<((rd_L1 l0 a2).length:Int):=zqo;obtain⟨p9,l8,p1⟩:=Kd.at_int g7.out a4 f4 f8
                           cases l8
                           replace f4:=eq_true f4;replace f8:=eq_true f8
                           go_wp2
                           go_ret
                           exact⟨zq3,zq4⟩
                         ·rw [if_neg o7] at H;exact absurd H (by simp)
                        ·rw [if_neg i1] at H;have r6:((rd (rd_L1 l0 a3) a4)==1)=false:=beq_eq_false_iff_ne.mpr i1;have r7:((rd (rd_L1 l0 a3) a4) !=1)=true:=bne_iff_ne.mpr i1;have H':=zqm H;clear H;have b4:0≤(a2:Int):=zqo;have b6:a2<(l0.length:Int):=zqo;obtain⟨d5,h4,i0,e9,e1,a8,a7⟩:=at_L1 c2.out a2 b4 b6
                         cases e9
                         have c1:=zqm a7;have g4:=zqm a8;clear a7 a8;replace b4:=eq_true b4;replace b6:=eq_true b6;have b5:0≤(a3:Int):=zqo;have b7:a3<((rd_L1 l0 a2).length:Int):=zqo;obtain⟨k1,f0,g9⟩:=Kd.at_int c1.out a3 b5 b7
                         cases f0
                         replace b5:=eq_true b5;replace b7:=eq_true b7;have d1:0≤(a3:Int):=zqo;have d3:a3<(l0.length:Int):=zqo;obtain⟨g0,k7,k8,i5,j8,b9,b8⟩:=at_L1 c2.out a3 d1 d3;obtain rfl:d5=g0:=(by injection i5);have d6:=zqm b8;have i7:=zqm b9;clear b8 b9;replace d1:=eq_true d1;replace d3:=eq_true d3;have d2:0≤(a4:Int):=zqo;have d4:a4<((rd_L1 l0 a3).length:Int):=zqo;obtain⟨n0,i6,j9⟩:=Kd.at_int d6.out a4 d2 d4
                         cases i6
                         replace d2:=eq_true d2;replace d4:=eq_true d4
                         go_wp2
                         go_roundg k5
                         (case measure=> exact zq39);case rel=>exact⟨(wrap64 (a4+1)),zq3,H',⟨zq39⟩,zq4⟩
                       ·rw [if_neg o6] at H;exact absurd H (by simp)
                      ·rw [if_neg o5] at H;exact absurd H (by simp)
                     ·rw [if_neg o4] at H;exact absurd H (by simp)
                    ·rw [if_neg h9] at H;have r4:((rd (rd_L1 l0 a2) a3)==1)=false:=beq_eq_false_iff_ne.mpr h9;have r5:((rd (rd_L1 l0 a2) a3) !=1)=true:=bne_iff_ne.mpr h9;have H':=zqm H;clear H;have b4:0≤(a2:Int):=zqo;have b6:a2<(l0.length:Int):=zqo;obtain⟨d5,h4,i0,e9,e1,a8,a7⟩:=at_L1 c2.out a2 b4 b6
                     cases e9
                     have c1:=zqm a7;have g4:=zqm a8;clear a7 a8;replace b4:=eq_true b4;replace b6:=eq_true b6;have b5:0≤(a3:Int):=zqo;have b7:a3<((rd_L1 l0 a2).length:Int):=zqo;obtain⟨k1,f0,g9⟩:=Kd.at_int c1.out a3 b5 b7
                     cases f0
                     replace b5:=eq_true b5;replace b7:=eq_true b7
                     go_wp2
                     go_roundg k5
                     (case measure=> exact zq39);case rel=>exact⟨(wrap64 (a4+1)),zq3,H',⟨zq39⟩,zq4⟩
                   ·rw [if_neg o3] at H;exact absurd H (by simp)
                  ·rw [if_neg o2] at H;exact absurd H (by simp)
                 ·rw [if_neg o1] at H;exact absurd H (by simp)
                ·rw [if_neg o0] at H;exact absurd H (by simp)
               ·rw [if_neg j5] at H;have r3:decide (a4<(l0.length:Int))=false:=decide_eq_false j5;clear j5;have H':=zqm H;clear H
                go_wp2
                go_roundg k5
                (case measure=> exact zq39);case rel=>exact⟨(wrap64 (a3+1)),zq3,H',⟨zq39⟩,zq4⟩
            ·rw [if_neg j3] at H;have r2:decide (a3<(l0.length:Int))=false:=decide_eq_false j3;clear j3;have H':=zqm H;clear H
             go_wp2
             go_roundg k4
             (case measure=>have:=b1.out;have:=b2.out;have:=e8.out;have:=b3.out;omega);case rel=>exact⟨(wrap64 (a2+1)),zq3,H',⟨by have:=b1.out;have:=b2.out;have:=e8.out;have:=b3.out;omega⟩,zq4⟩
         ·rw [if_neg j1] at H;have r1:decide (a2<(l0.length:Int))=false:=decide_eq_false j1;clear j1;obtain rfl:=Option.some.inj H
          go_wp2
          go_ret
          exact⟨zq3,zq4⟩
end
section
attribute [local go_sem] max2_int min2_int max_two min_two max_three min_three max_four min_four
mutual
def impl_turned.l0 : Nat → List (List Int) → List (List Int) → Int → Int → Option ((List (List Int)))
 | 0, _, _, _, _ => none
 | k + 1, x0, x3, x10, x11 => if x11 < x10 then (if 0 ≤ (x0.length : Int) then (if ((x0.length : Int) : Int).toNat ≤ 35184372088832 then (if 0 ≤ x11 then (if x11 < (x3.length : Int) then (impl_turned.l1 k x0 (x3.set (x11 : Int).toNat (List.replicate ((x0.length : Int) : Int).toNat 0)) x11 x10 x11 (x0.length : Int) 0) else (none)) else (none)) else (none)) else (none)) else (some x3)
def impl_turned.l1 : Nat → List (List Int) → List (List Int) → Int → Int → Int → Int → Int → Option ((List (List Int)))
 | 0, _, _, _, _, _, _, _ => none
 | k + 1, x0, x3, x4, x10, x11, x21, x22 => if x22 < x21 then (if 0 ≤ x4 then (if x4 < (x3.length : Int) then (if 0 ≤ x22 then (if x22 < (x0.length : Int) then (if x4 < ((rd_L1 x0 x22).length : Int) then (if x22 < ((rd_L1 x3 x4).length : Int) then (impl_turned.l1 k x0 (x3.set (x4 : Int).toNat ((rd_L1 x3 x4).set (x22 : Int).toNat (rd (rd_L1 x0 x22) x4))) x4 x10 x11 x21 (wrap64 (x22 + 1))) else (none)) else (none)) else (none)) else (none)) else (none)) else (none)) else (impl_turned.l0 k x0 x3 x10 (wrap64 (x11 + 1)))
end
def impl_turned.f (k : Nat) (l0 : List (List Int)) : Option ((List (List Int))) := if 0 ≤ (l0.length : Int) then (if ((l0.length : Int) : Int).toNat ≤ 11728124029610 then (impl_turned.l0 k l0 (List.replicate ((l0.length : Int) : Int).toNat []) (l0.length : Int) 0) else (none)) else (none)
def impl_turned.T9 : Bool × List (List Nat × List Nat) := (true, [([], []), ([], []), ([0, 1], [0, 1]), ([2], [2]), ([], []), ([], []), ([], []), ([5, 6], [5, 6]), ([7], [7]), ([], []), ([8, 9], [8, 9]), ([10], [10]), ([3, 4, 0, 1, 2, 3, 4, 5, 6, 7, 8, 9, 10, 11], [3, 4]), ([12, 11, 0, 1, 2, 3, 4, 5, 6, 7, 8, 9, 10, 11], [11, 12])])
def impl_turned.B9 : List Nat := [0, 0, 3, 7, 0, 0, 0, 96, 224, 0, 992, 2016, 4095, 8191]
theorem impl_turned.tab9 : rtab .any (opsOf Try.f52 9) = impl_turned.T9 := by kernel_rfl
theorem impl_turned.bits9 : waitsOk impl_turned.T9.2 impl_turned.B9 = true := by kernel_rfl
set_option maxHeartbeats 8000000 in
set_option maxRecDepth 100000 in
theorem impl_turned.calls (k : Nat) (A0 : Option Addr) (c0 : Nat) (l0 : List (List Int)) (r : List (List Int)) (w : World) (hr0 : Kd.C (Kd.slice 3 (Kd.int .i64)) w A0 l0.length l0) (hc0 : l0.length ≤ c0) (h : impl_turned.f k l0 = some r) :
  Calls Try.prog 52 #[.slice A0 l0.length c0] w fun e w' => ∃ v0_ : Value, e = .returned (v0_) ∧ Kd.S (Kd.slice 3 (Kd.int .i64)) 23 w' w.heap.size (fun _ => True) v0_ r ∧ Below w.heap.size w w' := by
 have l2:=zqm hr0;have o3:=zqm hc0;clear hr0 hc0;have HB:=zqm (Below.refl w.heap.size w);have H:(if 0≤(l0.length:Int) then(if((l0.length:Int):Int).toNat≤11728124029610 then(impl_turned.l0 k l0 (List.replicate ((l0.length:Int):Int).toNat []) (l0.length:Int) 0) else(none)) else(none))=some r:=h;clear h
 by_cases c2:0≤(l0.length:Int)
 ·rw [if_pos c2] at H;have m8:=eq_true c2;have m9:decide (0≤(l0.length:Int))=true:=decide_eq_true c2;clear c2
  by_cases c3:((l0.length:Int):Int).toNat≤11728124029610
  ·rw [if_pos c3] at H;have n0:=eq_true c3;have n1:decide (((l0.length:Int):Int).toNat≤11728124029610)=true:=decide_eq_true c3;clear c3;obtain⟨i6,d0⟩: ∃y_:List (List Int),y_=(List.replicate ((l0.length:Int):Int).toNat []):=⟨_,rfl⟩;replace H:(impl_turned.l0 k l0 i6 (l0.length:Int) 0)=some r:=zqy d0 H;have f0:=zqm d0;clear d0;have H':=zqm H;clear H
   go_enter Try.func52,Try.ntmps52
   go_wp2_with (first|((with_reducible refine gate_dst (N:=8) rfl ?_);refine Kd.S_make (Kd.slice 3 (Kd.int .i64)) _ 23 rfl (N:=8) rfl 22 _ _ rfl (l0.length:Int) rfl rfl Try.underlying22 (.slice none 0 0) 24 info23 rfl (by decide) (by omega) [] (ok:=fun _=>True) (okp:=fun _=>True) ⟨_,rfl,Kd.R_nil _ _ _ _ _⟩ (fun _ hk=>hk) trivial (zqo) (Nat.le_trans (Nat.mul_le_mul_right _ (zqo:(l0.length:Int).toNat≤11728124029610)) (by omega)) (Below.refl _ _) (Nat.le_refl _) ?_;intro k4 w4 d8 hb hg_ hnew_;clear hg_ hnew_;(first|rw [← f0.out] at d8|(simp only [Int.reduceToNat] at d8;rw [← f0.out] at d8));have i8:=zqm (Kd.S_lower d8 (below_size zq0));replace HB:=zqm (below_step zq0 hb);clear hb d8))
   go_loopg [11] k (fun kq l5 w'=> ∃(a3:List (List Int)) (a0:Int),l5= .int .i64 a0∧Aside0 (impl_turned.l0 kq l0 a3 (l0.length:Int) a0=some r)∧Aside0 (kq≤k)∧Aside0 (Kd.S (Kd.slice 3 (Kd.int .i64)) 23 w' w.heap.size (fun _=>True) k4 a3)∧Aside0 (Below w.heap.size w w'))
   case atStart=>exact⟨(i6),(0),zq3,H',⟨Nat.le_refl _⟩,⟨zqfS i8.out⟩,⟨zq0⟩⟩
   case round=>
    clear H';obtain⟨a3,a0,rfl,HA,e8,HO_3,HB⟩:=hrel
    cases gk with
    |zero=>exact absurd HA.out (by simp [impl_turned.l0])
    |succ k1=>
     have H:=HA.out;clear HA;simp only [impl_turned.l0] at H
     by_cases c6:a0<(l0.length:Int)
     ·rw [if_pos c6] at H;have j5:decide (a0<(l0.length:Int))=true:=decide_eq_true c6;clear c6
      by_cases c7:0≤(l0.length:Int)
      ·rw [if_pos c7] at H;have n2:=eq_true c7;have n3:decide (0≤(l0.length:Int))=true:=decide_eq_true c7;clear c7
       by_cases c8:((l0.length:Int):Int).toNat≤35184372088832
       ·rw [if_pos c8] at H;have n4:=eq_true c8;have n5:decide (((l0.length:Int):Int).toNat≤35184372088832)=true:=decide_eq_true c8;clear c8;obtain⟨e5,d1⟩: ∃y_:List Int,y_=(List.replicate ((l0.length:Int):Int).toNat 0):=⟨_,rfl⟩;replace H:(if 0≤a0 then(if a0<(a3.length:Int) then(impl_turned.l1 k1 l0 (a3.set (a0:Int).toNat e5) a0 (l0.length:Int) a0 (l0.length:Int) 0) else(none)) else(none))=some r:=zqy d1 H;have f1:=zqm d1;clear d1
        by_cases c9:0≤a0
        ·rw [if_pos c9] at H;have n6:decide (0≤a0)=true:=decide_eq_true c9;clear c9
         by_cases f3:a0<(a3.length:Int)
         ·rw [if_pos f3] at H;have m0:decide (a0<(a3.length:Int))=true:=decide_eq_true f3;clear f3;obtain⟨e6,d2⟩: ∃y_:List (List Int),y_=(a3.set (a0:Int).toNat e5):=⟨_,rfl⟩;replace H:(impl_turned.l1 k1 l0 e6 a0 (l0.length:Int) a0 (l0.length:Int) 0)=some r:=zqy d2 H;have i9:=zqm d2;clear d2;have H':=zqm H;clear H
          go_wp2_with (first|((with_reducible refine gate_dst (N:=18) rfl ?_);refine Kd.R_make (Kd.int .i64) _ 3 rfl (N:=18) rfl 23 _ _ rfl (l0.length:Int) rfl rfl Try.underlying23 (.int .i64 0) 8 info3 rfl (by decide) (by omega) 0 (ok:=fun _=>True) (okp:=fun _=>True) rfl (fun _ hk=>hk) trivial (zqo) (Nat.le_trans (Nat.mul_le_mul_right _ (zqo:(l0.length:Int).toNat≤35184372088832)) (by omega)) (Below.refl _ _) (Nat.le_refl _) ?_;intro b4 i4 b3 hb hg_ hnew_;clear hg_ hnew_;(first|rw [← f1.out] at b3|(simp only [Int.reduceToNat] at b3;rw [← f1.out] at b3));replace HO_3:=zqm (Kd.S_elder' (zqfS HO_3.out) (Kd.R_base b3) hb);have c4:=zqm (Kd.R_lower b3 (below_size zq0));replace HB:=zqm (below_step zq0 hb);clear hb b3;have i0:0≤(a0:Int):=zqo;have i2:(a0:Int)<((a3.length:Int):Int):=zqo;obtain⟨a8,e0,g8,h0,j9,o0,g4⟩:=Kd.S_form HO_3.out (by omega);(first|cases g8|(injection g8 with ea_ en_ ec_;(first|subst ea_|(injection ea_ with ea_;subst ea_));subst ec_;clear en_));have GB11:=zqm h0;have GG11:=zqm g4;clear h0 j9 g4;obtain⟨_,n7,hcl11,hM11,g0,hfr11,_,_⟩:=Kd.S_elem HO_3.out [] (a0:Int) i0 i2;obtain⟨l7,rfl,l3⟩:=hM11;have h7:=g0 0 _ rfl;have h4:=hfr11 0;(try simp only [show ((Kd.slice 3 (Kd.int .i64))).sz=1 from rfl,Nat.mul_one,Nat.add_zero] at h7);(try simp only [show ((Kd.slice 3 (Kd.int .i64))).sz=1 from rfl,Nat.mul_one,Nat.add_zero] at h4);clear hcl11 g0 hfr11;replace i0:=eq_true i0;replace i2:=eq_true i2;have n_:=zqm (Kd.S_mono (ok':=(fun k_=>some k_≠(b4:Value).ownBlock)) HO_3.out (fun k_ hk=>hk.2));clear HO_3;have HO_3:=n_;clear n_;have HX14:=zqm (show Kd.S (Kd.slice 3 (Kd.int .i64)) 23 i4 w.heap.size (fun k_=>((fun _=>True)) k_∧ ¬((fun k_=>some k_=(b4:Value).ownBlock)) k_) (.slice (some ⟨a8,0,none⟩) a3.length e0) a3 from zq95);obtain⟨oki14,n8,hcl14,hM14,g1,hfr14,hoki14,hH14⟩:=Kd.S_elem HX14.out [] (a0:Int) (zqo) (by have h_:(a0:Int)<((a3.length:Int):Int):=zqo;first|exact h_|(have e_:=(Kd.S_reads' HO_3.out).1;omega)|simpa using h_);obtain⟨l8,rfl,l4⟩:=hM14;have HP14:=Kd.S_seg hH14 (zqo) (by have h_:(a0:Int)<((a3.length:Int):Int):=zqo;first|exact h_|(have e_:=(Kd.S_reads' HO_3.out).1;omega)|simpa using h_) (seg:= [b4]) (j:=0) (show 1≤1 from by decide) (x':=e5) (Kd.M_row (Kd.R_mono (Kd.R_tight rfl (Kd.R_mono (ok':=fun k_=>((fun _=>True)) k_∧k_≠a8) (Kd.R_apart' (c4.out) (Kd.S_typed HO_3.out) (by decide)) (fun k_ hk=>⟨trivial,fun e_=>(hk.2) (by rw [e_];rfl)⟩))) (fun _ h_=>Or.inr (h_)))) (fun _ hk=>hk) (fun k_ hk_=>((Kd.R_mono (ok':=fun k_=>((fun _=>True)) k_∧k_≠a8) (Kd.R_apart' (c4.out) (Kd.S_typed HO_3.out) (by decide)) (fun k_ hk=>⟨trivial,fun e_=>(hk.2) (by rw [e_];rfl)⟩))).1 k_ hk_.symm);have h8:=g1 0 _ rfl;(try simp only [show ((Kd.slice 3 (Kd.int .i64))).sz=1 from rfl,Nat.mul_one,Nat.add_zero] at h8);have h5:=hfr14 0;(try simp only [show ((Kd.slice 3 (Kd.int .i64))).sz=1 from rfl,Nat.mul_one,Nat.add_zero] at h5);clear hcl14 g1 hfr14 hoki14 hH14;(try simp only [show ((Kd.slice 3 (Kd.int .i64))).sz=1 from rfl,Nat.mul_one,Nat.add_zero] at HP14))|((with_reducible refine gate_store (t:=23) (p:=19) rfl ?_);refine store_event (t:=23) (p:=19) (v:=?vo_w15) (w1:=(i4.setCell ⟨a8,(a0:Int).toNat,none⟩ (b4))) ?hg ?ho ?hn ?hr ?_;(case ho=>rfl);(case hg=>rfl);(case hn=>rfl);(case hr=>first|(go_simp;done)|(go_simp;rfl)|(obtain⟨a_,c_,e_⟩:=Kd.R_slice (Aside0.out ‹Aside0 (Kd.R _ _ _ _ _ b4 _)›);rw [e_];first|(go_simp;done)|(go_simp;rfl)));intro i5 hw;have hg:i4.grownBy i5 (some a8):=(by rw [hw];exact HP14.2);have hp_:Kd.S (Kd.slice 3 (Kd.int .i64)) 23 i5 w.heap.size (fun _=>True) (.slice (some ⟨a8,0,none⟩) a3.length e0) e6:=(by rw [hw,i9.out];exact HP14.1);clear HP14;replace HO_3:=zqm (hp_);replace HB:=zqm ((by rw [hw];exact below_set (HB.out) GB11.out:Below w.heap.size w i5));clear c4;clear hg hw hp_))
          go_loopg [22] k1 (fun kq l6 w'=> ∃(a2:List (List Int)) (a1:Int),l6= .int .i64 a1∧Aside0 (impl_turned.l1 kq l0 a2 a0 (l0.length:Int) a0 (l0.length:Int) a1=some r)∧Aside0 (kq≤k1)∧Aside0 (Kd.S (Kd.slice 3 (Kd.int .i64)) 23 w' w.heap.size (fun _=>True) (.slice (some ⟨a8,0,none⟩) a3.length e0) a2)∧Aside0 (Below w.heap.size w w'))
          case atStart=>exact⟨(e6),(0),zq3,H',⟨Nat.le_refl _⟩,⟨zqfS HO_3.out⟩,⟨zq0⟩⟩
          case round=>
           clear H';obtain⟨a2,a1,rfl,HA,e9,HO_3,HB⟩:=hrel;have a9:=(Kd.S_reads' HO_3.out).1;rw [a9] at HO_3;(try simp only [a9])
           cases gk with
           |zero=>exact absurd HA.out (by simp [impl_turned.l1])
           |succ k2=>
            have H:=HA.out;clear HA;simp only [impl_turned.l1] at H
            by_cases b6:a1<(l0.length:Int)
            ·rw [if_pos b6] at H;have j4:decide (a1<(l0.length:Int))=true:=decide_eq_true b6;clear b6
             by_cases f4:0≤a0
             ·rw [if_pos f4] at H;have m1:decide (0≤a0)=true:=decide_eq_true f4;clear f4
              by_cases f5:a0<(a2.length:Int)
              ·rw [if_pos f5] at H;have m2:decide (a0<(a2.length:Int))=true:=decide_eq_true f5;clear f5
               by_cases f6:0≤a1
               ·rw [if_pos f6] at H;have m3:decide (0≤a1)=true:=decide_eq_true f6;clear f6
                by_cases f7:a1<(l0.length:Int)
                ·rw [if_pos f7] at H;have m4:decide (a1<(l0.length:Int))=true:=decide_eq_true f7;clear f7
                 by_cases f8:a0<((rd_L1 l0 a1).length:Int)
                 ·rw [if_pos f8] at H;have m5:decide (a0<((rd_L1 l0 a1).length:Int))=true:=decide_eq_true f8;clear f8
                  by_cases f9:a1<((rd_L1 a2 a0).length:Int)
                  ·rw [if_pos f9] at H;have m6:decide (a1<((rd_L1 a2 a0).length:Int))=true:=decide_eq_true f9;clear f9;obtain⟨e7,d3⟩: ∃y_:List Int,y_=((rd_L1 a2 a0).set (a1:Int).toNat (rd (rd_L1 l0 a1) a0)):=⟨_,rfl⟩;replace H:(impl_turned.l1 k2 l0 (a2.set (a0:Int).toNat e7) a0 (l0.length:Int) a0 (l0.length:Int) (wrap64 (a1+1)))=some r:=zqy d3 H;have j0:=zqm d3;clear d3;obtain⟨i7,d4⟩: ∃y_:List (List Int),y_=(a2.set (a0:Int).toNat e7):=⟨_,rfl⟩;replace H:(impl_turned.l1 k2 l0 i7 a0 (l0.length:Int) a0 (l0.length:Int) (wrap64 (a1+1)))=some r:=zqy d4 H;have j1:=zqm d4;clear d4;have H':=zqm H;clear H;(try go_wp2);replace HO_3:=zqm (Kd.S_drew HO_3.out);replace HB:=zqm (below_drew1 HB.out);have d5:0≤(a0:Int):=zqo;have d6:a0<(a2.length:Int):=zqo;obtain⟨j2,k8,g6,j6,a4,b9,b7⟩:=at_L1 (Kd.S_reads' HO_3.out).2.2 a0 d5 d6;obtain rfl:(⟨a8,0,none⟩:Addr)=j2:=(by injection j6);obtain⟨m7,h3,h2,d7⟩:=Kd.S_get HO_3.out [] a0 d5 (by first|exact d6|exact zqo|(have e_:=(Kd.S_reads' HO_3.out).1;omega));obtain⟨k7,rfl,b2⟩:=h2;have a5:=d7 0 _ rfl;rw [Nat.add_zero,show ((Kd.slice 3 (Kd.int .i64))).sz=1 from rfl,Nat.mul_one] at a5;replace a5:=Option.some.inj (a5.symm.trans a4);rw [a5] at b2;have b1:=zqm (show Kd.R (Kd.int .i64) 3 _ _ _ _ (rd_L1 a2 a0) from b2);clear a5 b2;have HX324_0:=zqm a4;clear d7 h3;(first|simp only [add_plain] at a4|simp only [add_at] at a4|simp only [Addr.add,Nat.zero_add] at a4|skip);have g3:=zqm b7;have k5:=zqm b9;clear b7 b9;replace d5:=eq_true d5;replace d6:=eq_true d6;have e1:0≤(a1:Int):=zqo;have e3:a1<(l0.length:Int):=zqo;obtain⟨j3,k9,g7,j7,a6,c1,b8⟩:=at_L1 l2.out a1 e1 e3;have hw325_0:=a6
                   cases j7
                   replace a6:=(HB.out.cell (World.block_lt_of_cell? w _ a6)).trans a6;have b5:=zqm b8;have k6:=zqm c1;clear b8 c1;replace e1:=eq_true e1;replace e3:=eq_true e3;have e2:0≤(a0:Int):=zqo;have e4:a0<((rd_L1 l0 a1).length:Int):=zqo;obtain⟨f2,j8,a7⟩:=Kd.at_int b5.out a0 e2 e4;have hw326_0:=a7
                   cases j8
                   replace a7:=(HB.out.cell (World.block_lt_of_cell? w _ a7)).trans a7;replace e2:=eq_true e2;replace e4:=eq_true e4;have i1:0≤(a1:Int):=zqo;have i3:(a1:Int)<(((rd_L1 a2 a0).length:Int):Int):=zqo;obtain⟨k3,o2,g9,h1,k0,o1,g5⟩:=Kd.R_form b1.out (by omega);(first|cases g9|(injection g9 with ea_ en_ ec_;(first|subst ea_|(injection ea_ with ea_;subst ea_));subst ec_;clear en_));have GB23:=zqm h1;have GG23:=zqm g5;clear h1 k0 g5;obtain⟨h9,h6⟩:=Kd.R_celln 0 b1.out (a1:Int) i1 i3;replace i1:=eq_true i1;replace i3:=eq_true i3;have hq25:(a0:Int)<(a2.length:Int):=(by have h_:(a0:Int)<((a2.length:Int):Int):=zqo;first|exact h_|(have e_:=(Kd.S_reads' HO_3.out).1;omega)|simpa only [List.length_set,List.length_set] using h_);obtain⟨oki25,n9,hcl25,hM25,g2,hok25,hbk25⟩:=Kd.S_borrow HO_3.out [] (a0:Int) (zqo) hq25;obtain⟨l9,rfl,b0⟩:=hM25;have c5:=g2 0 _ rfl;rw [Nat.add_zero,show ((Kd.slice 3 (Kd.int .i64))).sz=1 from rfl,Nat.mul_one] at c5;replace c5:=Option.some.inj (c5.symm.trans HX324_0.out);subst c5;clear g2 hcl25;replace b0:=(show Kd.R (Kd.int .i64) 3 _ _ _ _ (rd_L1 a2 a0) from b0);have HP25:=Kd.R_putg b0 (a1:Int) (rd (rd_L1 l0 a1) a0);rw [← j0.out] at HP25;have d9:=hbk25 HP25.2 (fun k_ e_=>by injection e_ with e_;subst e_;exact b0.1 _ rfl) (x':=e7) (Kd.M_row HP25.1);rw [← j1.out] at d9;have HQ25:=zqm d9;clear HP25 d9 hbk25 hok25;refine start_ (n:=14) (S:=fun w'=>w'.cell? ⟨a8,(a0).toNat,none⟩=some (.slice (some ⟨k3,0,none⟩) (rd_L1 a2 a0).length g6)∧w'.cell? (j3.add (a1).toNat)=some (.slice (some f2) (rd_L1 l0 a1).length g7)∧w'.cell? (f2.add (a0).toNat)=some (.int .i64 (rd (rd_L1 l0 a1) a0))) (ds:= [13]) (zqb 14 0) zqk rfl rfl ⟨a4,((HB.out.cell (World.block_lt_of_cell? w _ hw325_0)).trans hw325_0),((HB.out.cell (World.block_lt_of_cell? w _ hw326_0)).trans hw326_0)⟩ (fun hHeld=>?_);refine with_tabW impl_turned.tab9 impl_turned.bits9 (fun HT_ HW_=>?_);generalize wr.drew=o4 at HO_3 HB GG23 b1 HQ25 g3 b5 HX324_0 h6 h9 a4 a6 a7 hHeld ⊢;refine zqp 0 25 (zqb 14 1) HT_ ?_;refine zqp 1 26 (zqb 14 3) HT_ ?_;refine zqp 2 27 (zqb 14 7) HT_ ?_;refine zqp 4 29 (zqb 14 23) HT_ ?_;refine zqp 5 30 (zqb 14 55) HT_ ?_;refine zqp 6 31 (zqb 14 119) HT_ ?_;refine zqp 7 32 (zqb 14 247) HT_ ?_;refine zqp 9 34 (zqb 14 759) HT_ ?_;refine zqw 3 28 (zqb 14 767) HT_ HW_ hHeld ?_;refine zqw 8 33 (zqb 14 1023) HT_ HW_ hHeld ?_;refine zqp 10 35 (zqb 14 2047) HT_ ?_;refine zqw 11 36 (zqb 14 4095) HT_ HW_ hHeld ?_;refine zqp 12 37 (zqb 14 8191) HT_ ?_;refine last_ (i:=13) (N:=none) (zqb 14 16383) rfl rfl (one_of HT_.out zqk) (by decide) (fun K hK=>?_);refine skip_ (w1:=?_) (by rfl) rfl ?_ ?_;rotate_left
                   ·go_simp;rfl
                   refine hK.out _ _ ?_;clear hK K;refine done_ (done_of HT_.out zqk) ?_;(try go_wp2);(try simp only [← a9])
                   go_roundg k2
                   (case measure=> exact zq111);case rel=>exact⟨(i7),(wrap64 (a1+1)),zq3,H',⟨zq111⟩,⟨by(try simp only [a9]);refine zqfS ?_;exact HQ25.out⟩,⟨by repeat(first|(with_reducible first|exact HB.out|apply below_alloc|apply pw_below_drewN|apply below_drew1|refine below_set ?_ GB23.out)|exact HB.out)⟩⟩
                  ·rw [if_neg f9] at H;exact absurd H (by simp)
                 ·rw [if_neg f8] at H;exact absurd H (by simp)
                ·rw [if_neg f7] at H;exact absurd H (by simp)
               ·rw [if_neg f6] at H;exact absurd H (by simp)
              ·rw [if_neg f5] at H;exact absurd H (by simp)
             ·rw [if_neg f4] at H;exact absurd H (by simp)
            ·rw [if_neg b6] at H;have j4:decide (a1<(l0.length:Int))=false:=decide_eq_false b6;clear b6;have H':=zqm H;clear H
             go_wp2
             (try simp only [← a9])
             go_roundg k2
             (case measure=> exact zq111);case rel=>exact⟨(a2),(wrap64 (a0+1)),zq3,H',⟨zq111⟩,⟨by(try simp only [a9]);refine zqfS ?_;exact HO_3.out⟩,⟨zq0⟩⟩
         ·rw [if_neg f3] at H;exact absurd H (by simp)
        ·rw [if_neg c9] at H;exact absurd H (by simp)
       ·rw [if_neg c8] at H;exact absurd H (by simp)
      ·rw [if_neg c7] at H;exact absurd H (by simp)
     ·rw [if_neg c6] at H;have j5:decide (a0<(l0.length:Int))=false:=decide_eq_false c6;clear c6;obtain rfl:=Option.some.inj H
      go_wp2
      go_ret
      exact⟨_,zq6,zqfS HO_3.out,zq0⟩
  ·rw [if_neg c3] at H;exact absurd H (by simp)
 ·rw [if_neg c2] at H;exact absurd H (by simp)
end
section
attribute [local go_sem] max2_int min2_int max_two min_two max_three min_three max_four min_four
mutual
def impl_LatticeOk.l0 : Nat → List (List Int) → List (List Int) → Int → Int → Option (Bool)
 | 0, _, _, _, _ => none
 | k + 1, x0, x3, x12, x13 => if x13 < x12 then (impl_LatticeOk.l1 k x0 x3 x13 x12 x13 (x0.length : Int) 0) else (some true)
def impl_LatticeOk.l1 : Nat → List (List Int) → List (List Int) → Int → Int → Int → Int → Int → Option (Bool)
 | 0, _, _, _, _, _, _, _ => none
 | k + 1, x0, x3, x4, x12, x13, x17, x18 => if x18 < x17 then ((impl_meet.f k x0 x4 x18).bind fun t356 => (if t356 < 0 then (some false) else ((impl_meet.f k x3 x4 x18).bind fun t357 => (if t357 < 0 then (some false) else (impl_LatticeOk.l1 k x0 x3 x4 x12 x13 x17 (wrap64 (x18 + 1))))))) else (impl_LatticeOk.l0 k x0 x3 x12 (wrap64 (x13 + 1)))
end
def impl_LatticeOk.f (k : Nat) (l0 : List (List Int)) : Option (Bool) := (impl_OrderOk.f k l0).bind fun t352 => (if t352 = true then ((impl_turned.f k l0).bind fun t353 => (impl_LatticeOk.l0 k l0 t353 (l0.length : Int) 0)) else (some false))
set_option maxHeartbeats 8000000 in
set_option maxRecDepth 100000 in
theorem impl_LatticeOk.calls (k : Nat) (A0 : Option Addr) (c0 : Nat) (l0 : List (List Int)) (r : Bool) (w : World) (hr0 : Kd.C (Kd.slice 3 (Kd.int .i64)) w A0 l0.length l0) (hc0 : l0.length ≤ c0) (h : impl_LatticeOk.f k l0 = some r) :
  Calls Try.prog 51 #[.slice A0 l0.length c0] w fun e w' => e = .returned (.bool r) ∧ Below w.heap.size w w' := by
 have a6:=zqm hr0;have a5:=zqm hc0;clear hr0 hc0;have HB:=zqm (Below.refl w.heap.size w);have H:((impl_OrderOk.f k l0).bind fun a8=>(if a8=true then((impl_turned.f k l0).bind fun a2=>(impl_LatticeOk.l0 k l0 a2 (l0.length:Int) 0)) else(some false)))=some r:=h;clear h;replace H:=Option.bind_eq_some_iff.mp H;obtain⟨a8,b6,H⟩:=H;(try dsimp only at H);have A2:=zqm b6;clear b6
 by_cases c3:a8=true
 ·subst c3;rw [if_pos rfl] at H;replace H:=Option.bind_eq_some_iff.mp H;obtain⟨a2,b7,H⟩:=H;(try dsimp only at H);have A4:=zqm b7;clear b7;have H':=zqm H;clear H
  go_enter Try.func51,Try.ntmps51
  go_wp2_with (first|((with_reducible refine gate_callee (f:=56) rfl ?_);refine goesL_ (some 7) rfl rfl Try.func56 zqk rfl #[.slice A0 l0.length c0] rfl zq1 ?_;(with_reducible refine(impl_OrderOk.calls k _ _ l0 true _ ?side1 ?side2 A2.out).mono ?_);(case side1=> exact zq57);(case side2=>exact a5.out);rintro e w' ⟨rfl,⟨nd,rfl⟩⟩;refine⟨_,rfl,?_⟩)|((with_reducible refine gate_callee (f:=52) rfl ?_);refine goesL_ (some 10) rfl rfl Try.func52 zqk rfl #[.slice A0 l0.length c0] rfl zq1 ?_;(with_reducible refine(impl_turned.calls k _ _ l0 a2 _ ?side1 ?side2 A4.out).mono ?_);(case side1=> exact zq57);(case side2=>exact a5.out);rintro e w5 ⟨b2,rfl,b9,hb⟩;refine⟨_,rfl,?_⟩;have b3:=zqm (Kd.S_lower b9 (below_size zq0));replace HB:=zqm (below_step zq0 hb);clear hb b9))
  go_loopg [13] k (fun kq d0 w'=> ∃(a0:Int),d0= .int .i64 a0∧Aside0 (impl_LatticeOk.l0 kq l0 a2 (l0.length:Int) a0=some r)∧Aside0 (kq≤k)∧Aside0 (Kd.S (Kd.slice 3 (Kd.int .i64)) 23 w' w.heap.size (fun _=>True) b2 a2)∧Aside0 (Below w.heap.size w w'))
  case atStart=>exact⟨(0),zq3,H',⟨Nat.le_refl _⟩,⟨zqfS b3.out⟩,⟨zq0⟩⟩
  case round=>
   clear H';obtain⟨a0,rfl,HA,a9,HO_3,HB⟩:=hrel
   cases gk with
   |zero=>exact absurd HA.out (by simp [impl_LatticeOk.l0])
   |succ k1=>
    have H:=HA.out;clear HA;simp only [impl_LatticeOk.l0] at H
    by_cases c6:a0<(l0.length:Int)
    ·rw [if_pos c6] at H;have c1:decide (a0<(l0.length:Int))=true:=decide_eq_true c6;clear c6;have H':=zqm H;clear H
     go_wp2
     go_loopg [18] k1 (fun kq d1 w'=> ∃(a1:Int),d1= .int .i64 a1∧Aside0 (impl_LatticeOk.l1 kq l0 a2 a0 (l0.length:Int) a0 (l0.length:Int) a1=some r)∧Aside0 (kq≤k1)∧Aside0 (Kd.S (Kd.slice 3 (Kd.int .i64)) 23 w' w.heap.size (fun _=>True) b2 a2)∧Aside0 (Below w.heap.size w w'))
     case atStart=>exact⟨(0),zq3,H',⟨Nat.le_refl _⟩,⟨zqfS HO_3.out⟩,⟨zq0⟩⟩
     case round=>
      clear H';obtain⟨a1,rfl,HA,b0,HO_3,HB⟩:=hrel
      cases gk with
      |zero=>exact absurd HA.out (by simp [impl_LatticeOk.l1])
      |succ k2=>
       have H:=HA.out;clear HA;simp only [impl_LatticeOk.l1] at H
       by_cases c7:a1<(l0.length:Int)
       ·rw [if_pos c7] at H;have c2:decide (a1<(l0.length:Int))=true:=decide_eq_true c7;clear c7;replace H:=Option.bind_eq_some_iff.mp H;obtain⟨a3,b8,H⟩:=H;(try dsimp only at H);have A8:=zqm b8;clear b8
        by_cases c9:a3<0
        ·rw [if_pos c9] at H;have c4:decide (a3<0)=true:=decide_eq_true c9;clear c9;obtain rfl:=Option.some.inj H
         go_wp2_with (first|((with_reducible refine gate_callee (f:=53) rfl ?_);refine goesL_ (some 24) rfl rfl Try.func53 zqk rfl #[.slice A0 l0.length c0,.int .i64 a0,.int .i64 a1] rfl zq1 ?_;(with_reducible refine(impl_meet.calls k2 _ _ l0 a0 a1 a3 _ ?side1 ?side2 A8.out).mono ?_);(case side1=> exact zq9);(case side2=>exact a5.out);rintro e w' ⟨rfl,⟨nd,rfl⟩⟩;refine⟨_,rfl,?_⟩))
         go_ret
         exact⟨zq6,zq0⟩
        ·rw [if_neg c9] at H;have c4:decide (a3<0)=false:=decide_eq_false c9;clear c9;replace H:=Option.bind_eq_some_iff.mp H;obtain⟨a4,b1,H⟩:=H;(try dsimp only at H);have b5:=zqm b1;clear b1
         by_cases a7:a4<0
         ·rw [if_pos a7] at H;have b4:decide (a4<0)=true:=decide_eq_true a7;clear a7;obtain rfl:=Option.some.inj H
          go_wp2_with (first|((with_reducible refine gate_callee (f:=53) rfl ?_);refine goesL_ (some 24) rfl rfl Try.func53 zqk rfl #[.slice A0 l0.length c0,.int .i64 a0,.int .i64 a1] rfl zq1 ?_;(with_reducible refine(impl_meet.calls k2 _ _ l0 a0 a1 a3 _ ?side1 ?side2 A8.out).mono ?_);(case side1=> exact zq9);(case side2=>exact a5.out);rintro e w' ⟨rfl,⟨nd,rfl⟩⟩;refine⟨_,rfl,?_⟩;obtain⟨d2,d4,c5⟩:=Kd.S_slice HO_3.out;subst c5)|(go_at_call 53;(with_reducible refine(impl_meet.calls k2 _ _ a2 a0 a1 a4 _ ?side1 ?side2 b5.out).mono ?_);(case side1=> exact zq68);(case side2=>exact(Kd.S_reads' HO_3.out).2.1);rintro e w' ⟨rfl,⟨nd,rfl⟩⟩))
          go_ret
          exact⟨zq6,zq0⟩
         ·rw [if_neg a7] at H;have b4:decide (a4<0)=false:=decide_eq_false a7;clear a7;have H':=zqm H;clear H
          go_wp2_with (first|((with_reducible refine gate_callee (f:=53) rfl ?_);refine goesL_ (some 24) rfl rfl Try.func53 zqk rfl #[.slice A0 l0.length c0,.int .i64 a0,.int .i64 a1] rfl zq1 ?_;(with_reducible refine(impl_meet.calls k2 _ _ l0 a0 a1 a3 _ ?side1 ?side2 A8.out).mono ?_);(case side1=> exact zq9);(case side2=>exact a5.out);rintro e w' ⟨rfl,⟨nd,rfl⟩⟩;refine⟨_,rfl,?_⟩;obtain⟨d3,d5,c8⟩:=Kd.S_slice HO_3.out;subst c8)|(go_at_call 53;(with_reducible refine(impl_meet.calls k2 _ _ a2 a0 a1 a4 _ ?side1 ?side2 b5.out).mono ?_);(case side1=> exact zq68);(case side2=>exact(Kd.S_reads' HO_3.out).2.1);rintro e w' ⟨rfl,⟨nd,rfl⟩⟩))
          go_roundg k2
          (case measure=> exact zq109);case rel=>exact⟨(wrap64 (a1+1)),zq3,H',⟨zq109⟩,⟨zqfS HO_3.out⟩,⟨zq0⟩⟩
       ·rw [if_neg c7] at H;have c2:decide (a1<(l0.length:Int))=false:=decide_eq_false c7;clear c7;have H':=zqm H;clear H
        go_wp2
        go_roundg k2
        (case measure=> exact zq109);case rel=>exact⟨(wrap64 (a0+1)),zq3,H',⟨zq109⟩,⟨zqfS HO_3.out⟩,⟨zq0⟩⟩
    ·rw [if_neg c6] at H;have c1:decide (a0<(l0.length:Int))=false:=decide_eq_false c6;clear c6;obtain rfl:=Option.some.inj H
     go_wp2
     go_ret
     exact⟨zq6,zq0⟩
 ·replace c3:=Bool.eq_false_iff.mpr c3;subst c3;rw [if_neg (show¬(false=true) by decide)] at H;obtain rfl:=Option.some.inj H
  go_enter Try.func51,Try.ntmps51
  go_wp2_with (first|((with_reducible refine gate_callee (f:=56) rfl ?_);refine goesL_ (some 7) rfl rfl Try.func56 zqk rfl #[.slice A0 l0.length c0] rfl zq1 ?_;(with_reducible refine(impl_OrderOk.calls k _ _ l0 false _ ?side1 ?side2 A2.out).mono ?_);(case side1=> exact zq57);(case side2=>exact a5.out);rintro e w' ⟨rfl,⟨nd,rfl⟩⟩;refine⟨_,rfl,?_⟩))
  go_ret
  exact⟨zq6,zq0⟩
end
section
attribute [local go_sem] max2_int min2_int max_two min_two max_three min_three max_four min_four
mutual
def impl_LeastOf.l0 : Nat → List (List Int) → Int → Int → Option (Int × Bool)
 | 0, _, _, _ => none
 | k + 1, x12, x13, x14 => if x14 < x13 then (if 0 ≤ x14 then (if x14 < (x12.length : Int) then (impl_LeastOf.l1 k x14 true x12 x13 x14 (rd_L1 x12 x14) ((rd_L1 x12 x14).length : Int) 0) else (none)) else (none)) else (some ((-1), false))
def impl_LeastOf.l1 : Nat → Int → Bool → List (List Int) → Int → Int → List Int → Int → Int → Option (Int × Bool)
 | 0, _, _, _, _, _, _, _, _ => none
 | k + 1, x4, x6, x12, x13, x14, x19, x20, x21 => if x21 < x20 then (if 0 ≤ x21 then (if x21 < (x19.length : Int) then (if x6 = true then (impl_LeastOf.l1 k x4 ((rd x19 x21) == 1) x12 x13 x14 x19 x20 (wrap64 (x21 + 1))) else (impl_LeastOf.l1 k x4 false x12 x13 x14 x19 x20 (wrap64 (x21 + 1)))) else (none)) else (none)) else (if x6 = true then (some (x4, true)) else (impl_LeastOf.l0 k x12 x13 (wrap64 (x14 + 1))))
end
def impl_LeastOf.f (k : Nat) (l0 : List (List Int)) : Option (Int × Bool) := (impl_OrderOk.f k l0).bind fun t358 => (if t358 = true then (impl_LeastOf.l0 k l0 (l0.length : Int) 0) else (some ((-1), false)))
set_option maxHeartbeats 8000000 in
set_option maxRecDepth 100000 in
theorem impl_LeastOf.calls (k : Nat) (A0 : Option Addr) (c0 : Nat) (l0 : List (List Int)) (r1 : Int) (r2 : Bool) (w : World) (hr0 : Kd.C (Kd.slice 3 (Kd.int .i64)) w A0 l0.length l0) (hc0 : l0.length ≤ c0) (h : impl_LeastOf.f k l0 = some (r1, r2)) :
  Calls Try.prog 54 #[.slice A0 l0.length c0] w fun e w' => e = .returned (.tuple #[.int .i64 r1, .bool r2]) ∧ Drawn0 w w' := by
 have b7:=zqm hr0;have c1:=zqm hc0;clear hr0 hc0;have H:((impl_OrderOk.f k l0).bind fun b0=>(if b0=true then(impl_LeastOf.l0 k l0 (l0.length:Int) 0) else(some ((-1),false))))=some (r1,r2):=h;clear h;replace H:=Option.bind_eq_some_iff.mp H;obtain⟨b0,b9,H⟩:=H;replace H:(if b0=true then(impl_LeastOf.l0 k l0 (l0.length:Int) 0) else(some ((-1),false)))=some (r1,r2):=H;have A2:=zqm b9;clear b9
 by_cases c3:b0=true
 ·subst c3;(have H1:(impl_LeastOf.l0 k l0 (l0.length:Int) 0)=some (r1,r2):=by rw [if_pos rfl] at H;exact H);clear H;have H:=H1;clear H1;have H':=zqm H;clear H
  go_enter Try.func54,Try.ntmps54
  go_wp2_with (first|((with_reducible refine gate_callee (f:=56) rfl ?_);refine goesL_ (some 10) rfl rfl Try.func56 zqk rfl #[.slice A0 l0.length c0] rfl zq1 ?_;(with_reducible refine(impl_OrderOk.calls k _ _ l0 true _ ?side1 ?side2 A2.out).mono ?_);(case side1=> exact zq76);(case side2=>exact c1.out);rintro e w' ⟨rfl,⟨nd,rfl⟩⟩;refine⟨_,rfl,?_⟩))
  go_loopg [14] k (fun kq d6 w'=> ∃(a0:Int),d6= .int .i64 a0∧Aside0 (impl_LeastOf.l0 kq l0 (l0.length:Int) a0=some (r1,r2))∧Aside0 (kq≤k)∧Drawn0 w w')
  case atStart=>exact⟨(0),zq3,H',⟨Nat.le_refl _⟩,zq4⟩
  case round=>
   clear H';obtain⟨a0,rfl,HA,a5,⟨m1,rfl⟩⟩:=hrel
   cases gk with
   |zero=>exact absurd HA.out (by simp [impl_LeastOf.l0])
   |succ k1=>
    have H:=HA.out;clear HA;simp only [impl_LeastOf.l0] at H
    by_cases c4:a0<(l0.length:Int)
    ·rw [if_pos c4] at H;have c2:decide (a0<(l0.length:Int))=true:=decide_eq_true c4;clear c4
     by_cases c5:0≤a0
     ·rw [if_pos c5] at H;have d9:decide (0≤a0)=true:=decide_eq_true c5;clear c5
      by_cases c6:a0<(l0.length:Int)
      ·rw [if_pos c6] at H;have e0:decide (a0<(l0.length:Int))=true:=decide_eq_true c6;clear c6;have H':=zqm H;clear H;have b2:0≤(a0:Int):=zqo;have b3:a0<(l0.length:Int):=zqo;obtain⟨d8,d4,d5,d1,d3,a9,a8⟩:=at_L1 b7.out a0 b2 b3
       cases d1
       have a7:=zqm a8;have d2:=zqm a9;clear a8 a9;replace b2:=eq_true b2;replace b3:=eq_true b3
       go_wp2
       go_loopg [6,21] k1 (fun kq v6 d7 w'=> ∃(a4:Bool) (a1:Int),v6= .bool a4∧d7= .int .i64 a1∧Aside0 (impl_LeastOf.l1 kq a0 a4 l0 (l0.length:Int) a0 (rd_L1 l0 a0) ((rd_L1 l0 a0).length:Int) a1=some (r1,r2))∧Aside0 (kq≤k1)∧Drawn0 w w')
       case atStart=>exact⟨(true),(0),zq3,zq3,H',⟨Nat.le_refl _⟩,zq4⟩
       case round=>
        clear H';obtain⟨a4,a1,rfl,rfl,HA,a6,⟨m2,rfl⟩⟩:=hrel
        cases gk with
        |zero=>exact absurd HA.out (by simp [impl_LeastOf.l1])
        |succ k2=>
         have H:=HA.out;clear HA;simp only [impl_LeastOf.l1] at H
         by_cases c7:a1<((rd_L1 l0 a0).length:Int)
         ·rw [if_pos c7] at H;have d0:decide (a1<((rd_L1 l0 a0).length:Int))=true:=decide_eq_true c7;clear c7
          by_cases c8:0≤a1
          ·rw [if_pos c8] at H;have e1:decide (0≤a1)=true:=decide_eq_true c8;clear c8
           by_cases c9:a1<((rd_L1 l0 a0).length:Int)
           ·rw [if_pos c9] at H;have e2:decide (a1<((rd_L1 l0 a0).length:Int))=true:=decide_eq_true c9;clear c9
            by_cases b4:a4=true
            ·subst b4;(have H1:(impl_LeastOf.l1 k2 a0 ((rd (rd_L1 l0 a0) a1)==1) l0 (l0.length:Int) a0 (rd_L1 l0 a0) ((rd_L1 l0 a0).length:Int) (wrap64 (a1+1)))=some (r1,r2):=by rw [if_pos rfl] at H;exact H);clear H;have H:=H1;clear H1;have H':=zqm H;clear H;have a2:0≤(a1:Int):=zqo;have a3:a1<((rd_L1 l0 a0).length:Int):=zqo;obtain⟨b8,b1,b6⟩:=Kd.at_int a7.out a1 a2 a3
             cases b1
             replace a2:=eq_true a2;replace a3:=eq_true a3
             go_wp2
             go_roundg k2
             (case measure=> exact zq84);case rel=>exact⟨(((rd (rd_L1 l0 a0) a1)==1)),(wrap64 (a1+1)),zq3,zq3,H',⟨zq84⟩,zq4⟩
            ·replace b4:=Bool.eq_false_iff.mpr b4;subst b4;(have H1:(impl_LeastOf.l1 k2 a0 false l0 (l0.length:Int) a0 (rd_L1 l0 a0) ((rd_L1 l0 a0).length:Int) (wrap64 (a1+1)))=some (r1,r2):=by rw [if_neg (show¬(false=true) by decide)] at H;exact H);clear H;have H:=H1;clear H1;have H':=zqm H;clear H;have a2:0≤(a1:Int):=zqo;have a3:a1<((rd_L1 l0 a0).length:Int):=zqo;obtain⟨b8,b1,b6⟩:=Kd.at_int a7.out a1 a2 a3
             cases b1
             replace a2:=eq_true a2;replace a3:=eq_true a3
             go_wp2
             go_roundg k2
             (case measure=> exact zq84);case rel=>exact⟨(false),(wrap64 (a1+1)),zq3,zq3,H',⟨zq84⟩,zq4⟩
           ·rw [if_neg c9] at H;exact absurd H (by simp)
          ·rw [if_neg c8] at H;exact absurd H (by simp)
         ·rw [if_neg c7] at H;have d0:decide (a1<((rd_L1 l0 a0).length:Int))=false:=decide_eq_false c7;clear c7
          by_cases b5:a4=true
          ·subst b5;(have H1:(some (a0,true))=some (r1,r2):=by rw [if_pos rfl] at H;exact H);clear H;have H:=H1;clear H1;simp only [Option.some.injEq,Prod.mk.injEq] at H;obtain⟨rfl,rfl⟩:=H
           go_wp2
           go_ret2
           exact⟨zq3,zq4⟩
          ·replace b5:=Bool.eq_false_iff.mpr b5;subst b5;(have H1:(impl_LeastOf.l0 k2 l0 (l0.length:Int) (wrap64 (a0+1)))=some (r1,r2):=by rw [if_neg (show¬(false=true) by decide)] at H;exact H);clear H;have H:=H1;clear H1;have H':=zqm H;clear H
           go_wp2
           go_roundg k2
           (case measure=> exact zq84);case rel=>exact⟨(wrap64 (a0+1)),zq3,H',⟨zq84⟩,zq4⟩
      ·rw [if_neg c6] at H;exact absurd H (by simp)
     ·rw [if_neg c5] at H;exact absurd H (by simp)
    ·rw [if_neg c4] at H;have c2:decide (a0<(l0.length:Int))=false:=decide_eq_false c4;clear c4;simp only [Option.some.injEq,Prod.mk.injEq] at H;obtain⟨rfl,rfl⟩:=H
     go_wp2
     go_ret2
     exact⟨zq3,zq4⟩
 ·replace c3:=Bool.eq_false_iff.mpr c3;subst c3;(have H1:(some ((-1),false))=some (r1,r2):=by rw [if_neg (show¬(false=true) by decide)] at H;exact H);clear H;have H:=H1;clear H1;simp only [Option.some.injEq,Prod.mk.injEq] at H;obtain⟨rfl,rfl⟩:=H
  go_enter Try.func54,Try.ntmps54
  go_wp2_with (first|((with_reducible refine gate_callee (f:=56) rfl ?_);refine goesL_ (some 10) rfl rfl Try.func56 zqk rfl #[.slice A0 l0.length c0] rfl zq1 ?_;(with_reducible refine(impl_OrderOk.calls k _ _ l0 false _ ?side1 ?side2 A2.out).mono ?_);(case side1=> exact zq76);(case side2=>exact c1.out);rintro e w' ⟨rfl,⟨nd,rfl⟩⟩;refine⟨_,rfl,?_⟩))
  go_ret2
  exact⟨zq3,zq4⟩
end
end Go.Proofs.Ytndbbbnofmlkdaa.Print
end
section
namespace Go.Proofs.Ytndbbbnofmlkdaa.Print
open Go.RowKit Go.Proofs.YtndbbbnofmlkdaaW.PrintWords Go.Proofs.YtndbbbnofmlkdaaW.PrintLast Go.Proofs.YtndbbbnofmlkdaaW.PrintMore
open Oml
section
section
variable {U : List (List Int)} (O : Order U)
include O
theorem meet_l1 {a b c : Nat} (ha : a < U.length) (hb : b < U.length) (hc : c < U.length) (R : Int) :
 ∀i,i≤U.length→ ∀fl:Bool,((fl && allFrom U.length (fun d=>!(leB U d a && leB U d b)||leB U d c) i)=false→Ev (fun k=>impl_meet.l0 k U a b U.length ((c+1:Nat):Int)) R)→
  Ev (fun k=>impl_meet.l1 k U a b c fl U.length c U.length i) (if(fl && allFrom U.length (fun d=>!(leB U d a && leB U d b)||leB U d c) i)=true then(c:Int) else R):=by
 have hs:=O.small
 refine fun i hi=>?_
 obtain⟨d,hd⟩: ∃d,U.length=i+d:=⟨U.length - i,by omega⟩
 induction d generalizing i with
 |zero=>
  intro fl hR
  rw [allFrom_ge (by omega),Bool.and_true] at hR ⊢
  cases fl with
  |true=>
   refine Ev.step (f:=fun _=>some (c:Int)) (fun k=>?_) (Ev.now _)
   simp only [impl_meet.l1]
   rw [if_neg (by omega)];rfl
  |false=>
   refine Ev.step (f:=fun k=>impl_meet.l0 k U a b U.length ((c+1:Nat):Int)) (fun k=>?_) (by simpa using hR rfl)
   simp only [impl_meet.l1]
   rw [if_neg (by omega),if_neg (by simp),wrap_nat (by omega)]
 |succ d ih=>
  intro fl hR
  rw [allFrom_lt (by omega)] at hR ⊢
  have hrow:((U.getD i []).length:Int)=U.length:=by rw [O.row i (by omega)]
  have va:=O.val (a:=i) (b:=a) (by omega) ha
  have vb:=O.val (a:=i) (b:=b) (by omega) hb
  have vc:=O.val (a:=i) (b:=c) (by omega) hc
  refine Ev.step (f:=fun k=>impl_meet.l1 k U a b c (fl && (!(leB U i a && leB U i b)||leB U i c)) U.length c U.length ((i+1:Nat):Int)) (fun k=>?_) ?_
  ·simp only [impl_meet.l1,rdL_nat,rd_nat,rd_row,hrow,va,vb,vc,wrap_nat (show i<4611686018427387904 by omega)]
   rw [if_pos (by omega)]
   cases fl
   ·rfl
   ·rw [if_pos rfl,if_pos (by omega),if_pos (by omega),if_pos (by omega),if_pos (by omega)]
    cases leB U i a
    ·rfl
    ·rw [if_neg (by simp),if_pos (by omega),if_pos (by omega)]
     cases leB U i b
     ·rfl
     ·rw [if_neg (by simp),if_pos (by omega),if_pos (by omega)]
      cases leB U i c <;> rfl
  ·refine Ev.eq (ih (i+1) (by omega) (by omega) (fl && (!(leB U i a && leB U i b)||leB U i c)) ?_) ?_
   ·intro h;exact hR (by rw [← Bool.and_assoc];exact h)
   ·rw [Bool.and_assoc]
theorem impl_meet.ev {a b : Nat} (ha : a < U.length) (hb : b < U.length) : Ev (fun k => impl_meet.f k U a b) (mI U a b) := by
 have hs:=O.small
 have key: ∀i,i≤U.length→Ev (fun k=>impl_meet.l0 k U a b U.length (i:Int)) (optI (fstFrom U.length (meetP U a b) i)):=by
  refine Ev.down U.length ?_ fun i hi ih=>?_
  ·rw [fstFrom_ge (Nat.le_refl _)]
   refine Ev.step (f:=fun _=>some (-1)) (fun k=>?_) (Ev.now _)
   simp only [impl_meet.l0]
   rw [if_neg (by omega)]
  ·have hrow:((U.getD i []).length:Int)=U.length:=by rw [O.row i hi]
   have va:=O.val (a:=i) (b:=a) hi ha
   have vb:=O.val (a:=i) (b:=b) hi hb
   rw [fstFrom_lt hi]
   refine Ev.step (f:=fun k=>impl_meet.j1 k U a b i U.length i (!(leB U i a && leB U i b))) (fun k=>?_) ?_
   ·simp only [impl_meet.l0,rdL_nat,rd_nat,rd_row,hrow,va,vb]
    rw [if_pos (by omega),if_pos (by omega),if_pos (by omega),if_pos (by omega),if_pos (by omega)]
    cases leB U i a
    ·rfl
    ·rw [if_neg (by simp),if_pos (by omega),if_pos (by omega)]
     cases leB U i b <;> rfl
   ·cases hab:leB U i a && leB U i b with
    |false=>
     refine Ev.step (f:=fun k=>impl_meet.l0 k U a b U.length ((i+1:Nat):Int)) (fun k=>?_) (Ev.eq ih ?_)
     ·simp only [impl_meet.j1,Bool.not_false,if_true]
      rw [wrap_nat (by omega)]
     ·have:meetP U a b i=false:=by unfold meetP;rw [← Bool.and_assoc,hab];rfl
      rw [this];rfl
    |true=>
     refine Ev.step (f:=fun k=>impl_meet.l1 k U a b i true U.length i U.length ((0:Nat):Int)) (fun k=>?_) (Ev.eq (meet_l1 O ha hb hi _ 0 (by omega) true (fun _=>ih)) ?_)
     ·simp only [impl_meet.j1,Bool.not_true];rfl
     ·have:meetP U a b i=allN U.length (fun d=>!(leB U d a && leB U d b)||leB U d i):=by unfold meetP;rw [← Bool.and_assoc,hab];rfl
      rw [this,Bool.true_and,allFrom_zero]
      split <;> rfl
 have:=key 0 (by omega)
 rw [fstFrom_zero] at this
 exact this
end
end
end Go.Proofs.Ytndbbbnofmlkdaa.Print
end
section
namespace Go.Proofs.Ytndbbbnofmlkdaa.Print
open Go.RowKit Go.Proofs.YtndbbbnofmlkdaaW.PrintWords Go.Proofs.YtndbbbnofmlkdaaW.PrintLast Go.Proofs.YtndbbbnofmlkdaaW.PrintMore
section
attribute [local go_sem] max2_int min2_int max_two min_two max_three min_three max_four min_four
def impl_isAnswer.f (l0 : List (List Int)) (a1 : Int) : Option (Bool) := if a1 ≥ 0 then (some (decide (a1 < (l0.length : Int)))) else (some false)
set_option maxHeartbeats 8000000 in
set_option maxRecDepth 100000 in
theorem impl_isAnswer.calls (A0 : Option Addr) (c0 : Nat) (l0 : List (List Int)) (a1 : Int) (r : Bool) (w : World) (hr0 : Kd.C (Kd.slice 3 (Kd.int .i64)) w A0 l0.length l0) (hc0 : l0.length ≤ c0) (h : impl_isAnswer.f l0 a1 = some r) :
  Calls Try.prog 55 #[.slice A0 l0.length c0, .int .i64 a1] w fun e w' => e = .returned (.bool r) ∧ Drawn0 w w' := by
 have HR0 := Aside0.mk hr0
 have HC0 := Aside0.mk hc0
 clear hr0 hc0
 have H : (if a1 ≥ 0 then (some (decide (a1 < (l0.length : Int)))) else (some false)) = some r := h
 clear h
 by_cases c3 : a1 ≥ 0
 ·rw [if_pos c3] at H
  have c3b0 : decide (0 ≤ a1) = true := decide_eq_true c3
  clear c3
  obtain rfl := Option.some.inj H
  go_enter Try.func55, Try.ntmps55
  go_wp2
  go_ret
  exact ⟨zq80, by repeat (first | exact Drawn0.refl _ | apply Drawn0.step)⟩
 ·rw [if_neg c3] at H
  have c3b0 : decide (0 ≤ a1) = false := decide_eq_false c3
  clear c3
  obtain rfl := Option.some.inj H
  go_enter Try.func55, Try.ntmps55
  go_wp2
  go_ret
  exact ⟨zq80, by repeat (first | exact Drawn0.refl _ | apply Drawn0.step)⟩
end
end Go.Proofs.Ytndbbbnofmlkdaa.Print
end
section
namespace Go.Proofs.Ytndbbbnofmlkdaa.Print
open Go.RowKit Go.Proofs.YtndbbbnofmlkdaaW.PrintWords Go.Proofs.YtndbbbnofmlkdaaW.PrintLast Go.Proofs.YtndbbbnofmlkdaaW.PrintMore
open Oml
structure ToldFacts (k : Nat) (U : List (List Int)) : Prop where
 lat:impl_LatticeOk.f k U=some (latticeB U)
 turn:latticeB U=true→impl_turned.f k U=some (turnL U)
 meet:latticeB U=true→ ∀a b:Nat,a<U.length→b<U.length→impl_meet.f k U a b=some (mI U a b)
 join:latticeB U=true→ ∀a b:Nat,a<U.length→b<U.length→impl_meet.f k (turnL U) a b=some (jI U a b)
 least:latticeB U=true→impl_LeastOf.f k U=some (optI (leastO U),(leastO U).isSome)
set_option maxHeartbeats 1000000 in
set_option maxRecDepth 100000 in
theorem told_flat (k : Nat) (A0 : Option Addr) (c0 : Nat) (U : List (List Int)) (A1 : Option Addr) (c1 : Nat) (N : List Int) (w : World)
 (hr0:Kd.C (Kd.slice 3 (Kd.int .i64)) w A0 U.length U) (hc0:U.length≤c0) (hr1:Kd.C (Kd.int .i64) w A1 N.length N) (hc1:N.length≤c1) (hLat:impl_LatticeOk.f k U=some false):
 Calls Try.prog 47 #[.agg #[.slice A0 U.length c0,.slice A1 N.length c1]] w fun e w'=>e= .returned (.pointer none)∧Below w.heap.size w w':=by
 have hu30:=Try.underlying25
 have HR0:=zqm hr0
 have HLat:=zqm hLat
 clear hr0 hLat hr1
 go_enter Try.func47,Try.ntmps47
 go_wp2_with (first|((with_reducible refine gate_dst (N:=1) rfl ?_);refine box_event ?hg (N:=1) ?hd (cs:= #[.slice A0 U.length c0,.slice A1 N.length c1]) (t:=25) ?hr ?_;(case hd=>rfl);(case hg=>rfl);(case hr=>first|(go_simp;done)|(go_simp;rfl));intro gb hg_gb w1 hbox_gb hb;have HB:=zqm hb;have hx0:w1.cell? ⟨gb,0,none⟩=some (.slice A0 U.length c0):=(blk_cell hbox_gb 0).trans rfl;have hx1:w1.cell? ⟨gb,1,none⟩=some (.slice A1 N.length c1):=(blk_cell hbox_gb 1).trans rfl;have HX:=zqm hbox_gb;clear hbox_gb hb hg_gb)|(go_at_call 51;(with_reducible refine(impl_LatticeOk.calls k _ _ U false _ ?s1 ?s2 HLat.out).mono ?_);(case s1=>exact Kd.C_below HR0.out HB.out);(case s2=>assumption);rintro e w2 ⟨rfl,hb⟩;have hbox:=blk_below HX.out hb;have hy0:w2.cell? ⟨gb,0,none⟩=some (.slice A0 U.length c0):=(blk_cell hbox 0).trans rfl;have hy1:w2.cell? ⟨gb,1,none⟩=some (.slice A1 N.length c1):=(blk_cell hbox 1).trans rfl;have HB2:=zqm (below_step HB.out hb);have HX2:=zqm hbox;clear hbox hb hx0 hx1 HX HB))
 go_ret
 exact⟨rfl,HB2.out⟩
set_option maxHeartbeats 1000000 in
set_option maxRecDepth 100000 in
theorem told_long (k : Nat) (A0 : Option Addr) (c0 : Nat) (U : List (List Int)) (A1 : Option Addr) (c1 : Nat) (N : List Int) (w : World)
 (hr0:Kd.C (Kd.slice 3 (Kd.int .i64)) w A0 U.length U) (hc0:U.length≤c0) (hr1:Kd.C (Kd.int .i64) w A1 N.length N) (hc1:N.length≤c1) (hLat:impl_LatticeOk.f k U=some true) (hl:N.length≠U.length):
 Calls Try.prog 47 #[.agg #[.slice A0 U.length c0,.slice A1 N.length c1]] w fun e w'=>e= .returned (.pointer none)∧Below w.heap.size w w':=by
 have hu30:=Try.underlying25
 have HR0:=zqm hr0
 have HLat:=zqm hLat
 have hne:((N.length:Int) !=(U.length:Int))=true:=by rw [bne_iff_ne];omega
 clear hr0 hLat hr1 hl
 go_enter Try.func47,Try.ntmps47
 go_wp2_with (first|((with_reducible refine gate_dst (N:=1) rfl ?_);refine box_event ?hg (N:=1) ?hd (cs:= #[.slice A0 U.length c0,.slice A1 N.length c1]) (t:=25) ?hr ?_;(case hd=>rfl);(case hg=>rfl);(case hr=>first|(go_simp;done)|(go_simp;rfl));intro gb hg_gb w1 hbox_gb hb;have HB:=zqm hb;have hx0:w1.cell? ⟨gb,0,none⟩=some (.slice A0 U.length c0):=(blk_cell hbox_gb 0).trans rfl;have hx1:w1.cell? ⟨gb,1,none⟩=some (.slice A1 N.length c1):=(blk_cell hbox_gb 1).trans rfl;have HX:=zqm hbox_gb;clear hbox_gb hb hg_gb)|(go_at_call 51;(with_reducible refine(impl_LatticeOk.calls k _ _ U true _ ?s1 ?s2 HLat.out).mono ?_);(case s1=>exact Kd.C_below HR0.out HB.out);(case s2=>assumption);rintro e w2 ⟨rfl,hb⟩;have hbox:=blk_below HX.out hb;have hy0:w2.cell? ⟨gb,0,none⟩=some (.slice A0 U.length c0):=(blk_cell hbox 0).trans rfl;have hy1:w2.cell? ⟨gb,1,none⟩=some (.slice A1 N.length c1):=(blk_cell hbox 1).trans rfl;have HB2:=zqm (below_step HB.out hb);have HX2:=zqm hbox;clear hbox hb hx0 hx1 HX HB))
 go_ret
 exact⟨rfl,HB2.out⟩
def impl_told.T15 : Bool × List (List Nat × List Nat) := (true, [([], []), ([], []), ([], []), ([2], [2]), ([3], [3]), ([4], [4]), ([], []), ([6], [6]), ([5, 7], [5, 7]), ([], []), ([9], [9]), ([10], [10]), ([11], [11]), ([], []), ([13], [13]), ([12, 14, 8], [12, 14]), ([0, 0, 2, 3, 4, 5, 6, 7, 8, 12, 15], [0]), ([16, 0, 2, 3, 4, 5, 6, 7, 8, 12, 15], [16]), ([17, 8, 15, 0, 2, 3, 4, 5, 6, 7, 8, 12, 15], [8, 17]), ([1, 0, 1, 2, 3, 4, 5, 6, 7, 8, 9, 10, 11, 12, 13, 14, 15, 16, 17, 18], [1]), ([19, 0, 1, 2, 3, 4, 5, 6, 7, 8, 9, 10, 11, 12, 13, 14, 15, 16, 17, 18], [19]), ([20, 15, 18, 0, 1, 2, 3, 4, 5, 6, 7, 8, 9, 10, 11, 12, 13, 14, 15, 16, 17, 18], [15, 20])])
def impl_told.B15 : List Nat := [0, 0, 0, 4, 12, 28, 0, 64, 252, 0, 512, 1536, 3584, 0, 8192, 32764, 65533, 131069, 262141, 524287, 1048575, 2097151]
theorem impl_told.tab15 : rtab .any (opsOf Try.f47 15) = impl_told.T15 := by kernel_rfl
theorem impl_told.bits15 : waitsOk impl_told.T15.2 impl_told.B15 = true := by kernel_rfl
def impl_told.T34 : Bool × List (List Nat × List Nat) := (true, [([], []), ([], []), ([1], [1]), ([], []), ([3], [3]), ([4], [4]), ([5], [5]), ([2, 6], [2, 6]), ([7], [7]), ([0, 0, 1, 2, 3, 4, 5, 6, 7, 8], [0]), ([9, 0, 1, 2, 3, 4, 5, 6, 7, 8], [9]), ([10, 8, 0, 1, 2, 3, 4, 5, 6, 7, 8], [8, 10])])
def impl_told.B34 : List Nat := [0, 0, 2, 0, 8, 24, 56, 126, 254, 511, 1023, 2047]
theorem impl_told.tab34 : rtab .any (opsOf Try.f47 34) = impl_told.T34 := by kernel_rfl
theorem impl_told.bits34 : waitsOk impl_told.T34.2 impl_told.B34 = true := by kernel_rfl
theorem optI_inj {a b : Option Nat} (h : optI a = optI b) : a = b := by
 cases a <;> cases b <;> simp [optI] at h ⊢ <;> omega
def Ok3 (U : List (List Int)) (N : List Int) (i : Nat) : Prop := 0 ≤ at1 N i ∧ at1 N i < U.length ∧ at1 N (at1 N i).toNat = i ∧ meetO U i (at1 N i).toNat = leastO U
def Ok5 (U : List (List Int)) (N : List Int) (i j : Nat) : Prop := leB U i j = true → leB U (at1 N j).toNat (at1 N i).toNat = true
theorem logicB_no3 {U : List (List Int)} {N : List Int} {a : Nat} (ha : a < U.length) (h : ¬ Ok3 U N a) : logicB U N = false := by
 rw [Bool.eq_false_iff]
 intro hl
 have L:=logicB_iff.1 hl
 exact h ⟨(L.ran a ha).1,(L.ran a ha).2,L.inv a ha,L.comp a ha⟩
theorem logicB_no5 {U : List (List Int)} {N : List Int} {a b : Nat} (ha : a < U.length) (hb : b < U.length) (h : ¬ Ok5 U N a b) : logicB U N = false := by
 rw [Bool.eq_false_iff]
 intro hl
 have L:=logicB_iff.1 hl
 exact h (L.turn a b ha hb)
theorem logicB_yes {U : List (List Int)} {N : List Int} (h1 : latticeB U = true) (h2 : N.length = U.length) (h3 : ∀ i, i < U.length → Ok3 U N i) (h5 : ∀ i, i < U.length → ∀ j, j < U.length → Ok5 U N i j) : logicB U N = true := by
 have O:=latticeB_order h1
 unfold latticeB at h1
 simp only [Bool.and_eq_true,allN_iff] at h1
 exact logicB_iff.2 { toOrder:=O,meets:=fun a b ha hb=>(h1.2 a ha b hb).1,joins:=fun a b ha hb=>(h1.2 a ha b hb).2,len:=h2,ran:=fun a ha=>⟨(h3 a ha).1,(h3 a ha).2.1⟩,inv:=fun a ha=>(h3 a ha).2.2.1,comp:=fun a ha=>(h3 a ha).2.2.2,turn:=fun a b ha hb=>h5 a ha b hb }
set_option maxHeartbeats 16000000 in
set_option maxRecDepth 100000 in
theorem told_walk (k : Nat) (A0 : Option Addr) (c0 : Nat) (U : List (List Int)) (A1 : Option Addr) (c1 : Nat) (N : List Int) (w : World)
 (hr0:Kd.C (Kd.slice 3 (Kd.int .i64)) w A0 U.length U) (hc0:U.length≤c0) (hr1:Kd.C (Kd.int .i64) w A1 N.length N) (hc1:N.length≤c1) (hF:ToldFacts k U) (hl:N.length=U.length) (hlat:latticeB U=true):
 Calls Try.prog 47 #[.agg #[.slice A0 U.length c0,.slice A1 N.length c1]] w (ToldPost U N w):=by
 have hu30:=Try.underlying25
 have hu70:=Try.underlying72
 have HR0:=zqm hr0
 have HR1:=zqm hr1
 have HL:=zqm hl
 have HLat:=zqm (hlat ▸ hF.lat)
 have HTurn:=zqm (hF.turn hlat)
 have HF:=zqm hF
 have HLB:=zqm hlat
 have HSM:=zqm (latticeB_order hlat).small
 have hne:((N.length:Int) !=(U.length:Int))=false:=by rw [hl];simp
 clear hr0 hr1 hl hF hlat
 go_enter Try.func47,Try.ntmps47
 go_wp2_with (first|((with_reducible refine gate_dst (N:=1) rfl ?_);refine box_event ?hg (N:=1) ?hd (cs:= #[.slice A0 U.length c0,.slice A1 N.length c1]) (t:=25) ?hr ?_;(case hd=>rfl);(case hg=>rfl);(case hr=> exact zq13);intro gb hg_gb w1 hbox_gb hb;have HB:=zqm hb;have hx0:w1.cell? ⟨gb,0,none⟩=some (.slice A0 U.length c0):=(blk_cell hbox_gb 0).trans rfl;have hx1:w1.cell? ⟨gb,1,none⟩=some (.slice A1 N.length c1):=(blk_cell hbox_gb 1).trans rfl;have HX:=zqm hbox_gb;clear hbox_gb hb hg_gb)|(go_at_call 51;(with_reducible refine(impl_LatticeOk.calls k _ _ U true _ ?s1 ?s2 HLat.out).mono ?_);(case s1=> exact zq83);(case s2=>assumption);rintro e w2 ⟨rfl,hb⟩;have hbox:=blk_below HX.out hb;have hy0:w2.cell? ⟨gb,0,none⟩=some (.slice A0 U.length c0):=(blk_cell hbox 0).trans rfl;have hy1:w2.cell? ⟨gb,1,none⟩=some (.slice A1 N.length c1):=(blk_cell hbox 1).trans rfl;have HB2:=zqm (below_step HB.out hb);have HX2:=zqm hbox;clear hbox hb hx0 hx1 HX HB)|((with_reducible refine gate_dst (N:=33) rfl ?_);refine box_event ?hg (N:=33) ?hd (cs:= #[.slice A0 U.length c0,.slice none 0 0,.slice none 0 0,.slice A1 N.length c1,.int .i64 0,.int .i64 0]) (t:=72) ?hr ?_;(case hd=>rfl);(case hg=>rfl);(case hr=> exact zq13);intro g hg_g w3 hbox_g hb;have HB3:=zqm (below_step HB2.out hb);have HG3:=zqm hbox_g;have HGE:=zqm ((by rw [hg_g];exact below_size HB2.out):w.heap.size≤g);have hbox:=blk_below HX2.out hb;have HNE:=zqm ((by rw [hg_g];exact Nat.ne_of_lt (blk_lt HX2.out)):gb≠g);have hz0:w3.cell? ⟨gb,0,none⟩=some (.slice A0 U.length c0):=(blk_cell hbox 0).trans rfl;have hz1:w3.cell? ⟨gb,1,none⟩=some (.slice A1 N.length c1):=(blk_cell hbox 1).trans rfl;have HX3:=zqm hbox;clear hbox hb hbox_g hg_g hy0 hy1 HX2 HB2)|(go_at_call 52;(with_reducible refine(impl_turned.calls k _ _ U (turnL U) _ ?s1 ?s2 HTurn.out).mono ?_);(case s1=>exact Kd.C_below HR0.out HB3.out);(case s2=>assumption);rintro e w4 ⟨vo,rfl,ho,hb⟩;have HB4:=zqm (below_step HB3.out hb);have HG4:=zqm (blk_below HG3.out hb);have hbox:=blk_below HX3.out hb;have hq0:w4.cell? ⟨gb,0,none⟩=some (.slice A0 U.length c0):=(blk_cell hbox 0).trans rfl;have hq1:w4.cell? ⟨gb,1,none⟩=some (.slice A1 N.length c1):=(blk_cell hbox 1).trans rfl;have HX4:=zqm hbox;obtain⟨Ao,co,rfl⟩:=Kd.S_slice ho;have HOv:=zqm ((Kd.S_reads' ho).2.1);have hlt_:=blk_lt HG3.out;have HOr:=zqm (show Kd.R (Kd.slice 3 (Kd.int .i64)) 23 w4 w.heap.size (fun k_=>(k_≠g∧some k_≠(Value.slice none 0 0).ownBlock)∧some k_≠(Value.slice none 0 0).ownBlock) (.slice Ao (turnL U).length co) (turnL U) from Kd.R_mono (Kd.R_lower (Kd.R_bound (Kd.S_R ho)) (below_size HB3.out)) (fun k_ hk=>⟨⟨by have:=hk.2.1;omega,by simp [Value.ownBlock]⟩,by simp [Value.ownBlock]⟩));clear hbox hb hz0 hz1 HX3 HB3 HG3 ho hlt_))
 go_loopg [40] (U.length+1) (fun kq v40 W=> ∃(a:Nat) (vA vO:Value),v40= .int .i64 a∧Aside0 (a+kq=U.length+1)∧Aside0 (a≤U.length)∧Aside0 (W.heap[g]? =some (.cells #[.slice A0 U.length c0,vA,vO,.slice A1 N.length c1,.int .i64 (0),.int .i64 (0)] 72 (0,0)))∧Aside0 (Kd.R (Kd.slice 3 (Kd.int .i64)) 23 W w.heap.size (fun k_=>True∧some k_≠vO.ownBlock) vA (tabT U.length (mI U) a))∧Aside0 (Kd.R (Kd.slice 3 (Kd.int .i64)) 23 W w.heap.size (fun k_=>True∧some k_≠vA.ownBlock) vO (tabT U.length (jI U) a))∧Aside0 (W.heap[gb]? =some (.cells #[.slice A0 U.length c0,.slice A1 N.length c1] 25 (0,0)))∧Aside0 (Kd.R (Kd.slice 3 (Kd.int .i64)) 23 W w.heap.size (fun k_=>(k_≠g∧some k_≠vO.ownBlock)∧some k_≠vA.ownBlock) (.slice Ao (turnL U).length co) (turnL U))∧Aside0 (Below w.heap.size w W))
 case atStart=>exact⟨0,.slice none 0 0,.slice none 0 0,rfl,⟨by omega⟩,⟨by omega⟩,⟨HG4.out⟩,⟨Kd.R_nil _ _ _ _ _⟩,⟨Kd.R_nil _ _ _ _ _⟩,⟨HX4.out⟩,⟨HOr.out⟩,⟨HB4.out⟩⟩
 case round=>
  clear HG4 HX4 HB4 HOr hq0 hq1
  obtain⟨a,vA,vO,rfl,HK,HK2,HG,HA,HO,HX,HOr,HB⟩:=hrel
  cases gk with
  |zero=>exact absurd HK.out (by have:=HK2.out;omega)
  |succ kn=>
  have hq0:wr.cell? ⟨gb,0,none⟩=some (.slice A0 U.length c0):=(blk_cell HX.out 0).trans rfl
  have hq1:wr.cell? ⟨gb,1,none⟩=some (.slice A1 N.length c1):=(blk_cell HX.out 1).trans rfl
  by_cases hlt:a<U.length
  ·have hlt':decide (a<U.length)=true:=decide_eq_true hlt
   have HLT:=zqm hlt
   clear hlt
   go_wp2_with (first|((with_reducible refine gate_dst (N:=43) rfl ?_);refine Kd.R_lit (Kd.int .i64) _ 3 ?hg (N:=43) ?hd (xs:=([]:List Int)) (inner:= []) (ok:=fun _=>True) (okp:=fun _=>True) ?hr ?hp (fun _ hk=>hk) trivial (Below.refl _ _) (Nat.le_refl _) (by simp) ?_;(case hd=>rfl);(case hg=>rfl);(case hr=> exact zq13);(case hp=>exact(Reps.none _ _));intro va wa ho hb hg_ hnew_;clear hg_;have HBa:=zqm hb;have HVa:=zqm ho;have hr0:wa.cell? ⟨gb,0,none⟩=some (.slice A0 U.length c0):=(blk_cell (blk_below HX.out hb) 0).trans rfl;clear ho hb hnew_)|((with_reducible refine gate_dst (N:=44) rfl ?_);refine Kd.R_lit (Kd.int .i64) _ 3 ?hg (N:=44) ?hd (xs:=([]:List Int)) (inner:= []) (ok:=fun _=>True) (okp:=fun _=>True) ?hr ?hp (fun _ hk=>hk) trivial (Below.refl _ _) (Nat.le_refl _) (by simp) ?_;(case hd=>rfl);(case hg=>rfl);(case hr=> exact zq13);(case hp=>exact(Reps.none _ _));intro vb wb ho hb hg_ hnew_;clear hg_;have HBi:=zqm (below_step HBa.out hb);have hr1:wb.cell? ⟨gb,0,none⟩=some (.slice A0 U.length c0):=(blk_cell (blk_below HX.out HBi.out) 0).trans rfl;have HVO:=zqm (Kd.R_mono (Kd.R_lower (Kd.R_newR ho HVa.out) (below_size HBa.out)) (fun k_ hk=>hk));have HVA:=zqm (Kd.R_mono (Kd.R_elder HVa.out ho hb) (fun k_ hk=>hk));clear ho hb hnew_ HVa HBa hr0))
   obtain⟨wo,rfl⟩: ∃wo:World,wo=wr:=⟨_,rfl⟩
   have HOC:=zqm (Kd.R_reads' HOr.out).2.2
   clear hr1 hq0 hq1
   go_loopg [6,7,48] (U.length+1) (fun kj v6 v7 v48 W=> ∃(b:Nat),v48= .int .i64 b∧Aside0 (b+kj=U.length+1)∧Aside0 (b≤U.length)∧Aside0 (Kd.R (Kd.int .i64) 3 W wo.heap.size (fun k_=>True∧some k_≠v7.ownBlock) v6 (rowT (mI U) a b))∧Aside0 (Kd.R (Kd.int .i64) 3 W wo.heap.size (fun k_=>True∧some k_≠v6.ownBlock) v7 (rowT (jI U) a b))∧Aside0 (Below wo.heap.size wo W))
   case atStart=>exact⟨0,rfl,⟨by omega⟩,⟨by omega⟩,⟨HVA.out⟩,⟨HVO.out⟩,⟨HBi.out⟩⟩
   case round=>
    clear HVA HVO HBi
    obtain⟨b,rfl,HKj,HKj2,HVA,HVO,HBi⟩:=hrel
    cases gk with
    |zero=>exact absurd HKj.out (by have:=HKj2.out;omega)
    |succ kj=>
    have hs0:wr.cell? ⟨gb,0,none⟩=some (.slice A0 U.length c0):=(blk_cell (blk_below HX.out HBi.out) 0).trans rfl
    by_cases hltb:b<U.length
    ·have hltb':decide (b<U.length)=true:=decide_eq_true hltb
     have HLTb:=zqm hltb
     clear hltb
     have HM1:=zqm (HF.out.meet HLB.out a b HLT.out HLTb.out)
     have HM2:=zqm (HF.out.join HLB.out a b HLT.out HLTb.out)
     go_wp2_with (first|(go_at_call 53;(first|(with_reducible refine(impl_meet.calls k _ _ U a b (mI U a b) _ ?s1 ?s2 HM1.out).mono ?_)|(with_reducible refine(impl_meet.calls k _ _ (turnL U) a b (jI U a b) _ ?s1 ?s2 HM2.out).mono ?_));(case s1=>(repeat(first|exact Kd.C_below HR0.out (below_step HB.out HBi.out)|exact Kd.C_below HOC.out HBi.out|exact Kd.C_below HR0.out (below_step HB.out HBj.out)|exact Kd.C_below HOC.out HBj.out|refine Kd.C_alloc ?_ _|refine Kd.C_drewN ?_ _)));(case s2=>first|assumption|exact HOv.out);rintro e w' ⟨rfl,⟨nd,rfl⟩⟩)|(at_builtin;refine Kd.R_append (Kd.int .i64) (w0:=wo) wo.heap.size rfl (.tmp 51) (.tmp 57) 23 3 (.int .i64 0) 8 rfl Try.underlying23 infoInt rfl (by decide) (by omega) u6 (rowT (mI U) a b) (mI U a b) [.int .i64 ((mI U a b))] (fun k_=>True∧some k_≠(u7:Value).ownBlock) (fun _=>False) rfl rfl ?aP (fun _ hk=>hk.elim) ?aF ?aO ?aB ?aS ?aL ?_;(case aP=>exact rfl);(case aF=>exact fun k_ hk=>⟨trivial,Kd.fresh_ok (Kd.R_drewN HVO.out _) k_ hk⟩);(case aO=>exact Kd.R_drewN HVA.out _);(case aB=>exact pw_below_drewN HBi.out _);(case aS=>exact below_size (pw_below_drewN HBi.out _));(case aL=>have:=HLTb.out;have:=HSM.out;rw [rowT_length];omega);intro va2 w5 ho hb hg hat;rw [← rowT_succ] at ho;have HBj:=zqm hb;have HVA2:=zqm ho;have HVO2:=zqm (Kd.R_after (Kd.R_drewN HVO.out _) hg hat);have hs1:w5.cell? ⟨gb,0,none⟩=some (.slice A0 U.length c0):=(blk_cell (blk_below HX.out HBj.out) 0).trans rfl;clear ho hb hg hat HVA HVO HBi hs0)|(at_builtin;refine Kd.R_append (Kd.int .i64) (w0:=wo) wo.heap.size rfl (.tmp 59) (.tmp 64) 23 3 (.int .i64 0) 8 rfl Try.underlying23 infoInt rfl (by decide) (by omega) u7 (rowT (jI U) a b) (jI U a b) [.int .i64 ((jI U a b))] (fun k_=>True∧some k_≠(va2:Value).ownBlock) (fun _=>False) rfl rfl ?aP (fun _ hk=>hk.elim) ?aF ?aO ?aB ?aS ?aL ?_;(case aP=>exact rfl);(case aF=>exact fun k_ hk=>⟨trivial,Kd.fresh_ok (Kd.R_drewN HVA2.out _) k_ hk⟩);(case aO=>exact Kd.R_drewN HVO2.out _);(case aB=>exact pw_below_drewN HBj.out _);(case aS=>exact below_size (pw_below_drewN HBj.out _));(case aL=>have:=HLTb.out;have:=HSM.out;rw [rowT_length];omega);intro vo2 w6 ho hb hg hat;rw [← rowT_succ] at ho;have HBk:=zqm hb;have HVO3:=zqm ho;have HVA3:=zqm (Kd.R_after (Kd.R_drewN HVA2.out _) hg hat);clear ho hb hg hat HVA2 HVO2 HBj hs1))
     go_roundg kj
     case measure=>omega
     case rel=>exact⟨b+1,by rw [wrap_small (by omega) (by have:=HLTb.out;have:=HSM.out;omega)];go_num,⟨by have:=HKj.out;omega⟩,⟨by have:=HLTb.out;omega⟩,⟨HVA3.out⟩,⟨HVO3.out⟩,⟨HBk.out⟩⟩
    ·have hltb':decide (b<U.length)=false:=decide_eq_false hltb
     obtain rfl:b=U.length:=by have:=HKj2.out;omega
     clear hltb
     obtain⟨AA,cA,rfl⟩:=Kd.R_slice HA.out
     obtain⟨AO,cO,rfl⟩:=Kd.R_slice HO.out
     obtain⟨Aa,ca,rfl⟩:=Kd.R_slice HVA.out
     obtain⟨Ab,cb,rfl⟩:=Kd.R_slice HVO.out
     have HrA:=zqm (show Kd.R (Kd.int .i64) 3 wr w.heap.size (fun k_=>some k_≠(Value.slice AO (tabT U.length (jI U) a).length cO).ownBlock∧some k_≠(Value.slice AA (tabT U.length (mI U) a).length cA).ownBlock) (.slice Aa (rowT (mI U) a U.length).length ca) (rowT (mI U) a U.length) from Kd.R_mono (Kd.R_lower (Kd.R_newR (Kd.R_newR HVA.out HA.out) HO.out) (below_size HB.out)) (fun k_ hk=>⟨hk.2,hk.1.2⟩))
     have HrO:=zqm (show Kd.R (Kd.int .i64) 3 wr w.heap.size (fun k_=>some k_≠(Value.slice AO (tabT U.length (jI U) a).length cO).ownBlock∧some k_≠(Value.slice AA (tabT U.length (mI U) a).length cA).ownBlock) (.slice Ab (rowT (jI U) a U.length).length cb) (rowT (jI U) a U.length) from Kd.R_mono (Kd.R_lower (Kd.R_newR (Kd.R_newR HVO.out HA.out) HO.out) (below_size HB.out)) (fun k_ hk=>⟨hk.2,hk.1.2⟩))
     have HAr:=zqm (Kd.R_below HA.out HBi.out)
     have HOr2:=zqm (Kd.R_below HO.out HBi.out)
     have HVr:=zqm (Kd.R_below HOr.out HBi.out)
     have HBr:=zqm (below_step HB.out HBi.out)
     have HXr:=zqm (blk_below HX.out HBi.out)
     have hG:=blk_below HG.out HBi.out
     have hg1:wr.cell? ⟨g,1,none⟩=some (.slice AA (tabT U.length (mI U) a).length cA):=(blk_cell hG 1).trans rfl
     have hg2:wr.cell? ⟨g,2,none⟩=some (.slice AO (tabT U.length (jI U) a).length cO):=(blk_cell hG 2).trans rfl
     have HGr:=zqm hG
     have ha11:a<12:=by have:=HLT.out;have:=HSM.out;omega
     clear hG HVA HVO hs0 HA HO HOr HB HX HG HOC
     go_wp2_with fail
     refine start_ (n:=22) (S:=(fun w'=>w'.cell? ⟨g,1,none⟩=some (.slice AA (tabT U.length (mI U) a).length cA)∧w'.cell? ⟨g,2,none⟩=some (.slice AO (tabT U.length (jI U) a).length cO))) (ds:= [18,21]) (zqb 22 0) zqk rfl rfl ⟨hg1,hg2⟩ (fun hHeld=>?_)
     refine with_tabW impl_told.tab15 impl_told.bits15 (fun HT_ HW_=>?_)
     generalize hwd:wr.drew=wd at hHeld ⊢
     have HWD:=zqm hwd;clear hwd
     replace HrA:=zqm (HWD.out ▸ (Kd.R_drew HrA.out))
     replace HrO:=zqm (HWD.out ▸ (Kd.R_drew HrO.out))
     replace HAr:=zqm (HWD.out ▸ (Kd.R_drew HAr.out))
     replace HOr2:=zqm (HWD.out ▸ (Kd.R_drew HOr2.out))
     replace HVr:=zqm (HWD.out ▸ (Kd.R_drew HVr.out))
     replace HBr:=zqm (HWD.out ▸ (below_drew HBr.out))
     replace HXr:=zqm (HWD.out ▸ (blk_drew HXr.out))
     replace HGr:=zqm (HWD.out ▸ (blk_drew HGr.out))
     refine zqp 0 67 (zqb 22 1) HT_ ?_
     refine zqp 1 68 (zqb 22 3) HT_ ?_
     refine zqp 2 69 (zqb 22 7) HT_ ?_
     refine zqp 3 70 (zqb 22 15) HT_ ?_
     refine zqp 4 71 (zqb 22 31) HT_ ?_
     refine zqp 6 73 (zqb 22 95) HT_ ?_
     refine zqp 9 76 (zqb 22 607) HT_ ?_
     refine zqp 10 77 (zqb 22 1631) HT_ ?_
     refine zqp 11 78 (zqb 22 3679) HT_ ?_
     refine zqp 13 80 (zqb 22 11871) HT_ ?_
     refine zqw 5 72 (zqb 22 11903) HT_ HW_ hHeld ?_
     refine zqw 12 79 (zqb 22 15999) HT_ HW_ hHeld ?_
     refine join_ (σ:=Nat × Nat × Option Addr × Nat × Option Addr × Nat) 6 (zqb 22 65535) (fun s=> [(74,.slice (some ⟨s.1,0,none⟩) 1 1),(75,.slice s.2.2.1 (tabT U.length (mI U) (a+1)).length s.2.2.2.1),(81,.slice (some ⟨s.2.1,0,none⟩) 1 1),(82,.slice s.2.2.2.2.1 (tabT U.length (jI U) (a+1)).length s.2.2.2.2.2)]) (fun s W=>W.heap[g]? =some (.cells #[.slice A0 U.length c0,.slice AA (tabT U.length (mI U) a).length cA,.slice AO (tabT U.length (jI U) a).length cO,.slice A1 N.length c1,.int .i64 (0),.int .i64 (0)] 72 (0,0))∧W.heap[gb]? =some (.cells #[.slice A0 U.length c0,.slice A1 N.length c1] 25 (0,0))∧Kd.R (Kd.slice 3 (Kd.int .i64)) 23 W w.heap.size (fun k_=>True∧some k_≠(Value.slice s.2.2.2.2.1 (tabT U.length (jI U) (a+1)).length s.2.2.2.2.2).ownBlock) (.slice s.2.2.1 (tabT U.length (mI U) (a+1)).length s.2.2.2.1) (tabT U.length (mI U) (a+1))∧Kd.R (Kd.slice 3 (Kd.int .i64)) 23 W w.heap.size (fun k_=>True∧some k_≠(Value.slice s.2.2.1 (tabT U.length (mI U) (a+1)).length s.2.2.2.1).ownBlock) (.slice s.2.2.2.2.1 (tabT U.length (jI U) (a+1)).length s.2.2.2.2.2) (tabT U.length (jI U) (a+1))∧Kd.R (Kd.slice 3 (Kd.int .i64)) 23 W w.heap.size (fun k_=>(k_≠g∧some k_≠(Value.slice s.2.2.1 (tabT U.length (mI U) (a+1)).length s.2.2.2.1).ownBlock)∧some k_≠(Value.slice s.2.2.2.2.1 (tabT U.length (jI U) (a+1)).length s.2.2.2.2.2).ownBlock) (.slice Ao (turnL U).length co) (turnL U)∧Below w.heap.size w W) ?cont (fun hC=>?_)
     rotate_left
     refine two_ (i:=7) (j:=14) (Ni:=some 74) (Nj:=some 81) (zqb 22 16127) (zqb 22 32383) rfl rfl rfl rfl zqk (by decide) (by decide) (fun K hK=>?_) (fun K hK=>?_)
     ·skip
      refine event_step (w1:=World.alloc (wd) (.cells #[.slice Aa (rowT (mI U) a U.length).length ca] 23)) (v:= .slice (some ⟨wd.heap.size,0,none⟩) 1 1) (by rfl) ?hr1 ?_
      case hr1=>first|(go_simp;done)|(go_simp;rfl)
      refine hK.out _ _ ⟨(blk_cell (blk_alloc HGr.out _) 1).trans rfl,(blk_cell (blk_alloc HGr.out _) 2).trans rfl⟩ (fun hHeld1=>?_)
      clear hK K
      (try simp only [Act.put,List.setIfInBounds_toArray,List.set_cons_zero,List.set_cons_succ])
      refine two_ (i:=8) (j:=14) (Ni:=some 75) (Nj:=some 81) (zqb 22 16383) (zqb 22 32511) rfl rfl rfl rfl zqk (by decide) (by decide) (fun K hK=>?_) (fun K hK=>?_)
      ·skip
       refine Kd.R_append_rows_step (Kd.slice 3 (Kd.int .i64)) (Rr:=fun x_ cs_=>x_=rowT (mI U) a U.length∧cs_= [.slice Aa (rowT (mI U) a U.length).length ca]) (w0:=w) w.heap.size (by rfl) (.tmp 72) (.tmp 74) 22 23 (.slice none 0 0) 24 rfl Try.underlying22 infoRow rfl (by decide) (by omega) (.slice AA (tabT U.length (mI U) a).length cA) (tabT U.length (mI U) a) [rowT (mI U) a U.length] _ 1 1 (fun k_=>True∧some k_≠(.slice AO (tabT U.length (jI U) a).length cO:Value).ownBlock) (fun k_=>some k_≠(.slice AO (tabT U.length (jI U) a).length cO:Value).ownBlock∧some k_≠(.slice AA (tabT U.length (mI U) a).length cA:Value).ownBlock) rfl rfl zq101 (reads_one zq60) ?aK2 (fun k_ hk=>⟨⟨trivial,hk.1⟩,hk.2⟩) ?aF2 zq24 (below_size zq24) (by rw [tabT_length];omega) ?_
       case aK2=>rintro x_ cs_ ⟨rfl,rfl⟩;exact⟨_,rfl,zq105⟩
       case aF2=>exact fun k_ hk=>⟨trivial,Kd.fresh_ok zq77 k_ hk⟩
       intro v7 w7 ho hb hg hat
       rw [← tabT_succ] at ho
       obtain⟨A7,c7,rfl⟩:=Kd.R_slice ho
       have HB7:=zqm hb
       have HA7:=zqm ho
       have HO7:=zqm (Kd.R_after zq77 hg hat)
       have HrO7:=zqm (Kd.R_after zq106 hg hat)
       have HV7:=zqm (Kd.R_after zq104 hg hat)
       have hg0:=Kd.R_lt HAr.out
       have HG7:=zqm (blk_grown (g:=g) (o:= .cells #[.slice A0 U.length c0,.slice AA (tabT U.length (mI U) a).length cA,.slice AO (tabT U.length (jI U) a).length cO,.slice A1 N.length c1,.int .i64 (0),.int .i64 (0)] 72 (0,0)) zq91 hg (Kd.R_ne HAr.out HGr.out (by decide)))
       have HX7:=zqm (blk_grown (g:=gb) (o:= .cells #[.slice A0 U.length c0,.slice A1 N.length c1] 25 (0,0)) zq93 hg (Kd.R_ne HAr.out HXr.out (by decide)))
       clear ho hb hg hat hg0
       refine hK.out _ _ ⟨(blk_cell HG7.out 1).trans rfl,(blk_cell HG7.out 2).trans rfl⟩ (fun hHeld7=>?_)
       clear hK K
       (try simp only [Act.put,List.setIfInBounds_toArray,List.set_cons_zero,List.set_cons_succ])
       refine one_ (i:=14) (N:=some 81) (zqb 22 32767) rfl rfl (one_of HT_.out zqk) (by decide) (fun K hK=>?_)
       refine event_step (w1:=World.alloc (w7) (.cells #[.slice Ab (rowT (jI U) a U.length).length cb] 23)) (v:= .slice (some ⟨w7.heap.size,0,none⟩) 1 1) (by rfl) ?hr3 ?_
       case hr3=>first|(go_simp;done)|(go_simp;rfl)
       refine hK.out _ _ ⟨(blk_cell (blk_alloc HG7.out _) 1).trans rfl,(blk_cell (blk_alloc HG7.out _) 2).trans rfl⟩ (fun hHeld3=>?_)
       clear hK K
       (try simp only [Act.put,List.setIfInBounds_toArray,List.set_cons_zero,List.set_cons_succ])
       refine one_ (i:=15) (N:=some 82) (zqb 22 65535) rfl rfl (one_of HT_.out zqk) (by decide) (fun K hK=>?_)
       refine Kd.R_append_rows_step (Kd.slice 3 (Kd.int .i64)) (Rr:=fun x_ cs_=>x_=rowT (jI U) a U.length∧cs_= [.slice Ab (rowT (jI U) a U.length).length cb]) (w0:=w) w.heap.size (by rfl) (.tmp 79) (.tmp 81) 22 23 (.slice none 0 0) 24 rfl Try.underlying22 infoRow rfl (by decide) (by omega) (.slice AO (tabT U.length (jI U) a).length cO) (tabT U.length (jI U) a) [rowT (jI U) a U.length] _ 1 1 (fun k_=>True∧some k_≠(.slice A7 (tabT U.length (mI U) (a+1)).length c7:Value).ownBlock) (fun k_=>some k_≠(.slice AO (tabT U.length (jI U) a).length cO:Value).ownBlock∧some k_≠(.slice A7 (tabT U.length (mI U) (a+1)).length c7:Value).ownBlock) rfl rfl zq102 (reads_one zq60) ?aK4 (fun k_ hk=>⟨⟨trivial,hk.2⟩,hk.1⟩) ?aF4 zq24 (below_size zq24) (by rw [tabT_length];omega) ?_
       case aK4=>rintro x_ cs_ ⟨rfl,rfl⟩;exact⟨_,rfl,zq99⟩
       case aF4=>exact fun k_ hk=>⟨trivial,Kd.fresh_ok zq79 k_ hk⟩
       intro v8 w8 ho hb hg hat
       rw [← tabT_succ] at ho
       obtain⟨A8,c8,rfl⟩:=Kd.R_slice ho
       have HB8:=zqm hb
       have HO8:=zqm ho
       have HA8:=zqm (Kd.R_after zq79 hg hat)
       have HV8:=zqm (Kd.R_after (Kd.R_mono (ok':=fun k_=>(k_≠g∧some k_≠(Value.slice A7 (tabT U.length (mI U) (a+1)).length c7).ownBlock)∧some k_≠(Value.slice AO (tabT U.length (jI U) a).length cO).ownBlock) zq103 (fun k_ (hk:(k_≠g∧some k_≠(Value.slice AO (tabT U.length (jI U) a).length cO).ownBlock)∧some k_≠(Value.slice A7 (tabT U.length (mI U) (a+1)).length c7).ownBlock)=>⟨⟨hk.1.1,hk.2⟩,hk.1.2⟩)) hg hat)
       have HG8:=zqm (blk_grown (g:=g) (o:= .cells #[.slice A0 U.length c0,.slice AA (tabT U.length (mI U) a).length cA,.slice AO (tabT U.length (jI U) a).length cO,.slice A1 N.length c1,.int .i64 (0),.int .i64 (0)] 72 (0,0)) zq90 hg (Kd.R_ne HO7.out HG7.out (by decide)))
       have HX8:=zqm (blk_grown (g:=gb) (o:= .cells #[.slice A0 U.length c0,.slice A1 N.length c1] 25 (0,0)) zq92 hg (Kd.R_ne HO7.out HX7.out (by decide)))
       clear ho hb hg hat
       refine hK.out _ _ ⟨(blk_cell HG8.out 1).trans rfl,(blk_cell HG8.out 2).trans rfl⟩ (fun hHeld8=>?_)
       clear hK K
       (try simp only [Act.put,List.setIfInBounds_toArray,List.set_cons_zero,List.set_cons_succ])
       exact hC ⟨wd.heap.size,w7.heap.size,A7,c7,A8,c8⟩ w8 ⟨HG8.out,HX8.out,HA8.out,HO8.out,HV8.out,HB8.out⟩
      ·skip
       refine event_step (w1:=World.alloc (World.alloc wd (.cells #[.slice Aa (rowT (mI U) a U.length).length ca] 23)) (.cells #[.slice Ab (rowT (jI U) a U.length).length cb] 23)) (v:= .slice (some ⟨wd.heap.size+1,0,none⟩) 1 1) (by rfl) ?hr5 ?_
       case hr5=>first|(go_simp;done)|(go_simp;rfl)
       refine hK.out _ _ ⟨(blk_cell (blk_alloc (blk_alloc HGr.out _) _) 1).trans rfl,(blk_cell (blk_alloc (blk_alloc HGr.out _) _) 2).trans rfl⟩ (fun hHeld2=>?_)
       clear hK K
       (try simp only [Act.put,List.setIfInBounds_toArray,List.set_cons_zero,List.set_cons_succ])
       refine one_ (i:=8) (N:=some 75) (zqb 22 32767) rfl rfl (one_of HT_.out zqk) (by decide) (fun K hK=>?_)
       refine Kd.R_append_rows_step (Kd.slice 3 (Kd.int .i64)) (Rr:=fun x_ cs_=>x_=rowT (mI U) a U.length∧cs_= [.slice Aa (rowT (mI U) a U.length).length ca]) (w0:=w) w.heap.size (by rfl) (.tmp 72) (.tmp 74) 22 23 (.slice none 0 0) 24 rfl Try.underlying22 infoRow rfl (by decide) (by omega) (.slice AA (tabT U.length (mI U) a).length cA) (tabT U.length (mI U) a) [rowT (mI U) a U.length] _ 1 1 (fun k_=>True∧some k_≠(.slice AO (tabT U.length (jI U) a).length cO:Value).ownBlock) (fun k_=>some k_≠(.slice AO (tabT U.length (jI U) a).length cO:Value).ownBlock∧some k_≠(.slice AA (tabT U.length (mI U) a).length cA:Value).ownBlock) rfl rfl zq101 (reads_one zq60) ?aK6 (fun k_ hk=>⟨⟨trivial,hk.1⟩,hk.2⟩) ?aF6 zq24 (below_size zq24) (by rw [tabT_length];omega) ?_
       case aK6=>rintro x_ cs_ ⟨rfl,rfl⟩;exact⟨_,rfl,zq105⟩
       case aF6=>exact fun k_ hk=>⟨trivial,Kd.fresh_ok zq77 k_ hk⟩
       intro v7 w7 ho hb hg hat
       rw [← tabT_succ] at ho
       obtain⟨A7,c7,rfl⟩:=Kd.R_slice ho
       have HB7:=zqm hb
       have HA7:=zqm ho
       have HO7:=zqm (Kd.R_after zq77 hg hat)
       have HrO7:=zqm (Kd.R_after zq106 hg hat)
       have HV7:=zqm (Kd.R_after zq104 hg hat)
       have hg0:=Kd.R_lt HAr.out
       have HG7:=zqm (blk_grown (g:=g) (o:= .cells #[.slice A0 U.length c0,.slice AA (tabT U.length (mI U) a).length cA,.slice AO (tabT U.length (jI U) a).length cO,.slice A1 N.length c1,.int .i64 (0),.int .i64 (0)] 72 (0,0)) zq91 hg (Kd.R_ne HAr.out HGr.out (by decide)))
       have HX7:=zqm (blk_grown (g:=gb) (o:= .cells #[.slice A0 U.length c0,.slice A1 N.length c1] 25 (0,0)) zq93 hg (Kd.R_ne HAr.out HXr.out (by decide)))
       have hcy:w7.cell? ⟨wd.heap.size+1,0,none⟩=some (.slice Ab (rowT (jI U) a U.length).length cb):=grown_cell hg (by first|(go_simp;done)|(simp;done)) (by intro e_;have:=hg0 _ e_.symm;simp at this;omega)
       clear ho hb hg hat hg0
       refine hK.out _ _ ⟨(blk_cell HG7.out 1).trans rfl,(blk_cell HG7.out 2).trans rfl⟩ (fun hHeld7=>?_)
       clear hK K
       (try simp only [Act.put,List.setIfInBounds_toArray,List.set_cons_zero,List.set_cons_succ])
       refine one_ (i:=15) (N:=some 82) (zqb 22 65535) rfl rfl (one_of HT_.out zqk) (by decide) (fun K hK=>?_)
       refine Kd.R_append_rows_step (Kd.slice 3 (Kd.int .i64)) (Rr:=fun x_ cs_=>x_=rowT (jI U) a U.length∧cs_= [.slice Ab (rowT (jI U) a U.length).length cb]) (w0:=w) w.heap.size (by rfl) (.tmp 79) (.tmp 81) 22 23 (.slice none 0 0) 24 rfl Try.underlying22 infoRow rfl (by decide) (by omega) (.slice AO (tabT U.length (jI U) a).length cO) (tabT U.length (jI U) a) [rowT (jI U) a U.length] _ 1 1 (fun k_=>True∧some k_≠(.slice A7 (tabT U.length (mI U) (a+1)).length c7:Value).ownBlock) (fun k_=>some k_≠(.slice AO (tabT U.length (jI U) a).length cO:Value).ownBlock∧some k_≠(.slice A7 (tabT U.length (mI U) (a+1)).length c7:Value).ownBlock) rfl rfl zq102 (reads_one zq60) ?aK7 (fun k_ hk=>⟨⟨trivial,hk.2⟩,hk.1⟩) ?aF7 zq24 (below_size zq24) (by rw [tabT_length];omega) ?_
       case aK7=>rintro x_ cs_ ⟨rfl,rfl⟩;exact⟨_,rfl,zq99⟩
       case aF7=>exact fun k_ hk=>⟨trivial,Kd.fresh_ok zq79 k_ hk⟩
       intro v8 w8 ho hb hg hat
       rw [← tabT_succ] at ho
       obtain⟨A8,c8,rfl⟩:=Kd.R_slice ho
       have HB8:=zqm hb
       have HO8:=zqm ho
       have HA8:=zqm (Kd.R_after zq79 hg hat)
       have HV8:=zqm (Kd.R_after (Kd.R_mono (ok':=fun k_=>(k_≠g∧some k_≠(Value.slice A7 (tabT U.length (mI U) (a+1)).length c7).ownBlock)∧some k_≠(Value.slice AO (tabT U.length (jI U) a).length cO).ownBlock) zq103 (fun k_ (hk:(k_≠g∧some k_≠(Value.slice AO (tabT U.length (jI U) a).length cO).ownBlock)∧some k_≠(Value.slice A7 (tabT U.length (mI U) (a+1)).length c7).ownBlock)=>⟨⟨hk.1.1,hk.2⟩,hk.1.2⟩)) hg hat)
       have HG8:=zqm (blk_grown (g:=g) (o:= .cells #[.slice A0 U.length c0,.slice AA (tabT U.length (mI U) a).length cA,.slice AO (tabT U.length (jI U) a).length cO,.slice A1 N.length c1,.int .i64 (0),.int .i64 (0)] 72 (0,0)) zq90 hg (Kd.R_ne HO7.out HG7.out (by decide)))
       have HX8:=zqm (blk_grown (g:=gb) (o:= .cells #[.slice A0 U.length c0,.slice A1 N.length c1] 25 (0,0)) zq92 hg (Kd.R_ne HO7.out HX7.out (by decide)))
       clear ho hb hg hat
       refine hK.out _ _ ⟨(blk_cell HG8.out 1).trans rfl,(blk_cell HG8.out 2).trans rfl⟩ (fun hHeld8=>?_)
       clear hK K
       (try simp only [Act.put,List.setIfInBounds_toArray,List.set_cons_zero,List.set_cons_succ])
       exact hC ⟨wd.heap.size,wd.heap.size+1,A7,c7,A8,c8⟩ w8 ⟨HG8.out,HX8.out,HA8.out,HO8.out,HV8.out,HB8.out⟩
     ·skip
      refine event_step (w1:=World.alloc (wd) (.cells #[.slice Ab (rowT (jI U) a U.length).length cb] 23)) (v:= .slice (some ⟨wd.heap.size,0,none⟩) 1 1) (by rfl) ?hr8 ?_
      case hr8=>first|(go_simp;done)|(go_simp;rfl)
      refine hK.out _ _ ⟨(blk_cell (blk_alloc HGr.out _) 1).trans rfl,(blk_cell (blk_alloc HGr.out _) 2).trans rfl⟩ (fun hHeld1=>?_)
      clear hK K
      (try simp only [Act.put,List.setIfInBounds_toArray,List.set_cons_zero,List.set_cons_succ])
      refine one_ (i:=7) (N:=some 74) (zqb 22 32511) rfl rfl (one_of HT_.out zqk) (by decide) (fun K hK=>?_)
      refine event_step (w1:=World.alloc (World.alloc wd (.cells #[.slice Ab (rowT (jI U) a U.length).length cb] 23)) (.cells #[.slice Aa (rowT (mI U) a U.length).length ca] 23)) (v:= .slice (some ⟨wd.heap.size+1,0,none⟩) 1 1) (by rfl) ?hr9 ?_
      case hr9=>first|(go_simp;done)|(go_simp;rfl)
      refine hK.out _ _ ⟨(blk_cell (blk_alloc (blk_alloc HGr.out _) _) 1).trans rfl,(blk_cell (blk_alloc (blk_alloc HGr.out _) _) 2).trans rfl⟩ (fun hHeld2=>?_)
      clear hK K
      (try simp only [Act.put,List.setIfInBounds_toArray,List.set_cons_zero,List.set_cons_succ])
      refine one_ (i:=8) (N:=some 75) (zqb 22 32767) rfl rfl (one_of HT_.out zqk) (by decide) (fun K hK=>?_)
      refine Kd.R_append_rows_step (Kd.slice 3 (Kd.int .i64)) (Rr:=fun x_ cs_=>x_=rowT (mI U) a U.length∧cs_= [.slice Aa (rowT (mI U) a U.length).length ca]) (w0:=w) w.heap.size (by rfl) (.tmp 72) (.tmp 74) 22 23 (.slice none 0 0) 24 rfl Try.underlying22 infoRow rfl (by decide) (by omega) (.slice AA (tabT U.length (mI U) a).length cA) (tabT U.length (mI U) a) [rowT (mI U) a U.length] _ 1 1 (fun k_=>True∧some k_≠(.slice AO (tabT U.length (jI U) a).length cO:Value).ownBlock) (fun k_=>some k_≠(.slice AO (tabT U.length (jI U) a).length cO:Value).ownBlock∧some k_≠(.slice AA (tabT U.length (mI U) a).length cA:Value).ownBlock) rfl rfl zq101 (reads_one zq60) ?aK10 (fun k_ hk=>⟨⟨trivial,hk.1⟩,hk.2⟩) ?aF10 zq24 (below_size zq24) (by rw [tabT_length];omega) ?_
      case aK10=>rintro x_ cs_ ⟨rfl,rfl⟩;exact⟨_,rfl,zq105⟩
      case aF10=>exact fun k_ hk=>⟨trivial,Kd.fresh_ok zq77 k_ hk⟩
      intro v7 w7 ho hb hg hat
      rw [← tabT_succ] at ho
      obtain⟨A7,c7,rfl⟩:=Kd.R_slice ho
      have HB7:=zqm hb
      have HA7:=zqm ho
      have HO7:=zqm (Kd.R_after zq77 hg hat)
      have HrO7:=zqm (Kd.R_after zq106 hg hat)
      have HV7:=zqm (Kd.R_after zq104 hg hat)
      have hg0:=Kd.R_lt HAr.out
      have HG7:=zqm (blk_grown (g:=g) (o:= .cells #[.slice A0 U.length c0,.slice AA (tabT U.length (mI U) a).length cA,.slice AO (tabT U.length (jI U) a).length cO,.slice A1 N.length c1,.int .i64 (0),.int .i64 (0)] 72 (0,0)) zq91 hg (Kd.R_ne HAr.out HGr.out (by decide)))
      have HX7:=zqm (blk_grown (g:=gb) (o:= .cells #[.slice A0 U.length c0,.slice A1 N.length c1] 25 (0,0)) zq93 hg (Kd.R_ne HAr.out HXr.out (by decide)))
      have hcy:w7.cell? ⟨wd.heap.size,0,none⟩=some (.slice Ab (rowT (jI U) a U.length).length cb):=grown_cell hg (by first|(go_simp;done)|(simp;done)) (by intro e_;have:=hg0 _ e_.symm;simp at this)
      clear ho hb hg hat hg0
      refine hK.out _ _ ⟨(blk_cell HG7.out 1).trans rfl,(blk_cell HG7.out 2).trans rfl⟩ (fun hHeld7=>?_)
      clear hK K
      (try simp only [Act.put,List.setIfInBounds_toArray,List.set_cons_zero,List.set_cons_succ])
      refine one_ (i:=15) (N:=some 82) (zqb 22 65535) rfl rfl (one_of HT_.out zqk) (by decide) (fun K hK=>?_)
      refine Kd.R_append_rows_step (Kd.slice 3 (Kd.int .i64)) (Rr:=fun x_ cs_=>x_=rowT (jI U) a U.length∧cs_= [.slice Ab (rowT (jI U) a U.length).length cb]) (w0:=w) w.heap.size (by rfl) (.tmp 79) (.tmp 81) 22 23 (.slice none 0 0) 24 rfl Try.underlying22 infoRow rfl (by decide) (by omega) (.slice AO (tabT U.length (jI U) a).length cO) (tabT U.length (jI U) a) [rowT (jI U) a U.length] _ 1 1 (fun k_=>True∧some k_≠(.slice A7 (tabT U.length (mI U) (a+1)).length c7:Value).ownBlock) (fun k_=>some k_≠(.slice AO (tabT U.length (jI U) a).length cO:Value).ownBlock∧some k_≠(.slice A7 (tabT U.length (mI U) (a+1)).length c7:Value).ownBlock) rfl rfl zq102 (reads_one zq60) ?aK11 (fun k_ hk=>⟨⟨trivial,hk.2⟩,hk.1⟩) ?aF11 zq24 (below_size zq24) (by rw [tabT_length];omega) ?_
      case aK11=>rintro x_ cs_ ⟨rfl,rfl⟩;exact⟨_,rfl,zq99⟩
      case aF11=>exact fun k_ hk=>⟨trivial,Kd.fresh_ok zq79 k_ hk⟩
      intro v8 w8 ho hb hg hat
      rw [← tabT_succ] at ho
      obtain⟨A8,c8,rfl⟩:=Kd.R_slice ho
      have HB8:=zqm hb
      have HO8:=zqm ho
      have HA8:=zqm (Kd.R_after zq79 hg hat)
      have HV8:=zqm (Kd.R_after (Kd.R_mono (ok':=fun k_=>(k_≠g∧some k_≠(Value.slice A7 (tabT U.length (mI U) (a+1)).length c7).ownBlock)∧some k_≠(Value.slice AO (tabT U.length (jI U) a).length cO).ownBlock) zq103 (fun k_ (hk:(k_≠g∧some k_≠(Value.slice AO (tabT U.length (jI U) a).length cO).ownBlock)∧some k_≠(Value.slice A7 (tabT U.length (mI U) (a+1)).length c7).ownBlock)=>⟨⟨hk.1.1,hk.2⟩,hk.1.2⟩)) hg hat)
      have HG8:=zqm (blk_grown (g:=g) (o:= .cells #[.slice A0 U.length c0,.slice AA (tabT U.length (mI U) a).length cA,.slice AO (tabT U.length (jI U) a).length cO,.slice A1 N.length c1,.int .i64 (0),.int .i64 (0)] 72 (0,0)) zq90 hg (Kd.R_ne HO7.out HG7.out (by decide)))
      have HX8:=zqm (blk_grown (g:=gb) (o:= .cells #[.slice A0 U.length c0,.slice A1 N.length c1] 25 (0,0)) zq92 hg (Kd.R_ne HO7.out HX7.out (by decide)))
      clear ho hb hg hat
      refine hK.out _ _ ⟨(blk_cell HG8.out 1).trans rfl,(blk_cell HG8.out 2).trans rfl⟩ (fun hHeld8=>?_)
      clear hK K
      (try simp only [Act.put,List.setIfInBounds_toArray,List.set_cons_zero,List.set_cons_succ])
      exact hC ⟨wd.heap.size+1,wd.heap.size,A7,c7,A8,c8⟩ w8 ⟨HG8.out,HX8.out,HA8.out,HO8.out,HV8.out,HB8.out⟩
     case cont=>
      rintro ⟨x74,x81,A7,c7,A8,c8⟩ w8 ⟨hG8,hX8,hA8,hO8,hV8,hB8⟩
      refine norm_ (by simp only [putAll,Act.put,List.setIfInBounds_toArray,List.set_cons_zero,List.set_cons_succ];rfl) ?_
      have HG8:=zqm hG8;clear hG8
      have HX8:=zqm hX8;clear hX8
      have HA8:=zqm hA8;clear hA8
      have HO8:=zqm hO8;clear hO8
      have HV8:=zqm hV8;clear hV8
      have HB8:=zqm hB8;clear hB8
      clear HGr HXr HAr HOr2 HVr HBr HrA HrO hHeld hg1 hg2
      refine zqp 16 83 (zqb 22 131071) HT_ ?_
      refine zqp 17 84 (zqb 22 262143) HT_ ?_
      have hs81:w8.cell? ⟨g,1,none⟩=some (.slice AA (tabT U.length (mI U) a).length cA):=(blk_cell HG8.out 1).trans rfl
      have hf81:=blk_frozen HG8.out 1
      refine last_ (i:=18) (N:=none) (zqb 22 524287) rfl rfl (one_of HT_.out zqk) (by decide) (fun K hK=>?_)
      refine skip_ (w1:=w8.setCell ⟨g,1,none⟩ (.slice A7 (tabT U.length (mI U) (a+1)).length c7)) (by rfl) rfl ?_ ?_
      ·go_simp
      refine hK.out _ _ ?_
      clear hK K
      have HG9:=zqm (show (w8.setCell ⟨g,1,none⟩ (.slice A7 (tabT U.length (mI U) (a+1)).length c7)).heap[g]? =some (.cells #[.slice A0 U.length c0,.slice A7 (tabT U.length (mI U) (a+1)).length c7,.slice AO (tabT U.length (jI U) a).length cO,.slice A1 N.length c1,.int .i64 (0),.int .i64 (0)] 72 (0,0)) from blk_put HG8.out 1 _ rfl)
      have HA9:=zqm (Kd.R_set HA8.out HG8.out (by decide) 1 (.slice A7 (tabT U.length (mI U) (a+1)).length c7))
      have HO9:=zqm (Kd.R_set HO8.out HG8.out (by decide) 1 (.slice A7 (tabT U.length (mI U) (a+1)).length c7))
      have HV9:=zqm (Kd.R_far (p:=⟨g,1,none⟩) HV8.out (fun k_ hk=>hk.1.1) (.slice A7 (tabT U.length (mI U) (a+1)).length c7))
      have HX9:=zqm (blk_far HX8.out (p:=⟨g,1,none⟩) HNE.out (.slice A7 (tabT U.length (mI U) (a+1)).length c7))
      have HB9:=zqm (below_set (j:=1) (v:= .slice A7 (tabT U.length (mI U) (a+1)).length c7) HB8.out HGE.out)
      generalize w8.setCell ⟨g,1,none⟩ (.slice A7 (tabT U.length (mI U) (a+1)).length c7)=w9 at HG9 HA9 HO9 HV9 HX9 HB9 ⊢
      clear hs81 hf81 HG8 HA8 HO8 HV8 HX8 HB8
      have hs92:w9.cell? ⟨g,2,none⟩=some (.slice AO (tabT U.length (jI U) a).length cO):=(blk_cell HG9.out 2).trans rfl
      have hf92:=blk_frozen HG9.out 2
      refine zqp 19 85 (zqb 22 1048575) HT_ ?_
      refine zqp 20 86 (zqb 22 2097151) HT_ ?_
      refine last_ (i:=21) (N:=none) (zqb 22 4194303) rfl rfl (one_of HT_.out zqk) (by decide) (fun K hK=>?_)
      refine skip_ (w1:=w9.setCell ⟨g,2,none⟩ (.slice A8 (tabT U.length (jI U) (a+1)).length c8)) (by rfl) rfl ?_ ?_
      ·go_simp
      refine hK.out _ _ ?_
      clear hK K
      have HG10:=zqm (show (w9.setCell ⟨g,2,none⟩ (.slice A8 (tabT U.length (jI U) (a+1)).length c8)).heap[g]? =some (.cells #[.slice A0 U.length c0,.slice A7 (tabT U.length (mI U) (a+1)).length c7,.slice A8 (tabT U.length (jI U) (a+1)).length c8,.slice A1 N.length c1,.int .i64 (0),.int .i64 (0)] 72 (0,0)) from blk_put HG9.out 2 _ rfl)
      have HA10:=zqm (Kd.R_set HA9.out HG9.out (by decide) 2 (.slice A8 (tabT U.length (jI U) (a+1)).length c8))
      have HO10:=zqm (Kd.R_set HO9.out HG9.out (by decide) 2 (.slice A8 (tabT U.length (jI U) (a+1)).length c8))
      have HV10:=zqm (Kd.R_far (p:=⟨g,2,none⟩) HV9.out (fun k_ hk=>hk.1.1) (.slice A8 (tabT U.length (jI U) (a+1)).length c8))
      have HX10:=zqm (blk_far HX9.out (p:=⟨g,2,none⟩) HNE.out (.slice A8 (tabT U.length (jI U) (a+1)).length c8))
      have HB10:=zqm (below_set (j:=2) (v:= .slice A8 (tabT U.length (jI U) (a+1)).length c8) HB9.out HGE.out)
      generalize w9.setCell ⟨g,2,none⟩ (.slice A8 (tabT U.length (jI U) (a+1)).length c8)=w10 at HG10 HA10 HO10 HV10 HX10 HB10 ⊢
      clear hs92 hf92 HG9 HA9 HO9 HV9 HX9 HB9
      refine done_ (done_of HT_.out zqk) ?_
      go_wp2
      go_roundg kn
      case measure=>omega
      case rel=>exact⟨a+1,_,_,by first|go_num|(rw [wrap_small (by omega) (by omega)];go_num),⟨by have:=HK.out;omega⟩,⟨by have:=HLT.out;omega⟩,HG10,HA10,HO10,HX10,⟨Kd.R_mono HV10.out (fun k_ hk=>⟨⟨hk.1.1,hk.2⟩,hk.1.2⟩)⟩,HB10⟩
  ·obtain rfl:a=U.length:=by have:=HK2.out;omega
   clear hlt
   obtain⟨AA,cA,eA⟩:=Kd.R_slice HA.out
   obtain⟨AO,cO,eO⟩:=Kd.R_slice HO.out
   rw [tabT_length] at eA eO
   subst eA eO
   have hlt':decide (U.length<U.length)=false:=by simp
   have hg4:wr.cell? ⟨g,4,none⟩=some (.int .i64 0):=(blk_cell HG.out 4).trans rfl
   have hf4:=blk_frozen HG.out 4
   have hnb:gb≠g:=HNE.out
   have hnc:g≠gb:=Ne.symm HNE.out
   have HLE:=zqm (HF.out.least HLB.out)
   go_wp2_with ((go_at_call 54;(with_reducible refine(impl_LeastOf.calls k _ _ U (optI (leastO U)) (leastO U).isSome _ ?s1 ?s2 HLE.out).mono ?_);(case s1=> exact zq83);(case s2=>assumption);rintro e w' ⟨rfl,⟨nd,rfl⟩⟩))
   go_loopg [100] (N.length+1) (fun kq v100 W=> ∃(a:Nat),v100= .int .i64 a∧Aside0 (a+kq=N.length+1)∧Aside0 (a≤N.length)∧Aside0 (W.heap[g]? =some (.cells #[.slice A0 U.length c0,.slice AA U.length cA,.slice AO U.length cO,.slice A1 N.length c1,.int .i64 (optI (leastO U)),.int .i64 (0)] 72 (0,0)))∧Aside0 (Kd.R (Kd.slice 3 (Kd.int .i64)) 23 W w.heap.size (fun _=>True) (.slice AA U.length cA) (tabI U.length (mI U)))∧Aside0 (Kd.R (Kd.slice 3 (Kd.int .i64)) 23 W w.heap.size (fun _=>True) (.slice AO U.length cO) (tabI U.length (jI U)))∧Aside0 (U.length≤cA∧U.length≤cO)∧Aside0 (W.heap[gb]? =some (.cells #[.slice A0 U.length c0,.slice A1 N.length c1] 25 (0,0)))∧Aside0 (Below w.heap.size w W)∧Aside0 (∀i,i<a→Ok3 U N i))
   case atStart=>
    refine⟨0,rfl,⟨by omega⟩,⟨by omega⟩,⟨blk_put (blk_drewN HG.out nd) 4 _ rfl⟩,⟨Kd.R_mono (Kd.R_set (Kd.R_drewN HA.out nd) (blk_drewN HG.out nd) (by decide) 4 (.int .i64 (optI (leastO U)))) (fun _ _=>trivial)⟩,⟨Kd.R_mono (Kd.R_set (Kd.R_drewN HO.out nd) (blk_drewN HG.out nd) (by decide) 4 (.int .i64 (optI (leastO U)))) (fun _ _=>trivial)⟩,⟨?_⟩,⟨blk_far (blk_drewN HX.out nd) HNE.out _⟩,⟨below_set (pw_below_drewN HB.out nd) HGE.out⟩,⟨fun i hi=>absurd hi (by omega)⟩⟩
    ·exact⟨by have h_:=(Kd.R_reads HA.out);obtain⟨A_,c_,e_,l_,k_⟩:=h_;rw [tabT_length] at e_ l_;injection e_ with e1 e2 e3;subst e3;exact l_,by have h_:=(Kd.R_reads HO.out);obtain⟨A_,c_,e_,l_,k_⟩:=h_;rw [tabT_length] at e_ l_;injection e_ with e1 e2 e3;subst e3;exact l_⟩
   case round=>
    clear hg4 hf4 hq0 hq1 HA HO HOr HB HX HG
    obtain⟨a,rfl,HK3,HK4,HG,HCA,HCO,HCC,HX,HB,HS⟩:=hrel
    cases gk with
    |zero=>exact absurd HK3.out (by have:=HK4.out;omega)
    |succ kn3=>
    have hq0:wr.cell? ⟨gb,0,none⟩=some (.slice A0 U.length c0):=(blk_cell HX.out 0).trans rfl
    have hq1:wr.cell? ⟨gb,1,none⟩=some (.slice A1 N.length c1):=(blk_cell HX.out 1).trans rfl
    by_cases hlta:a<N.length
    ·have hlta':decide (a<N.length)=true:=decide_eq_true hlta
     have HLT:=zqm hlta
     obtain⟨adN,eN,hNa⟩:=ints_cell HR1.out a (by omega) (by omega)
     subst eN
     replace hNa:=cell_up hNa HB.out rfl
     simp only [Int.toNat_natCast] at hNa
     by_cases c1:0≤at1 N a∧at1 N a<(U.length:Int)
     ·have hA1:=zqm (show impl_isAnswer.f U (at1 N a)=some true by unfold impl_isAnswer.f;rw [if_pos c1.1];simp [c1.2])
      obtain⟨adN',eN',hNb⟩:=ints_cell HR1.out (at1 N a) c1.1 (by have:=HL.out;omega)
      cases eN'
      replace hNb:=cell_up hNb HB.out rfl
      by_cases c2:at1 N (at1 N a).toNat=(a:Int)
      ·have hc2:(at1 N (at1 N a).toNat !=(a:Int))=false:=by rw [c2];simp
       obtain⟨adA,adR,cR,eA,hRa,hRb,hRl⟩:=tab_cell (Kd.R_reads' HCA.out).2.2 (a:Int) (at1 N a) (by omega) (by have:=HL.out;omega) c1.1 c1.2
       subst eA
       simp only [Int.toNat_natCast] at hRa hRb
       have hg1:wr.cell? ⟨g,1,none⟩=some (.slice (some adA) U.length cA):=(blk_cell HG.out 1).trans rfl
       have hg4:wr.cell? ⟨g,4,none⟩=some (.int .i64 (optI (leastO U))):=(blk_cell HG.out 4).trans rfl
       have p1:(0≤at1 N a)=True:=eq_true c1.1
       have p2:(at1 N a<(U.length:Int))=True:=eq_true c1.2
       have p3:(at1 N a<(N.length:Int))=True:=eq_true (by have:=HL.out;omega)
       have p4:(a<N.length)=True:=eq_true hlta
       have p5:(a<U.length)=True:=eq_true (by have:=HL.out;omega)
       have C1:=zqm c1
       have C2:=zqm c2
       clear c1 c2 hlta
       by_cases c3:meetO U a (at1 N a).toNat=leastO U
       ·have hc3:(mI U a (at1 N a).toNat !=optI (leastO U))=false:=by unfold mI;rw [c3];simp
        have C3:=zqm c3
        clear c3
        go_wp2_with fail
        go_quiet ((go_at_call 55;(with_reducible refine(impl_isAnswer.calls _ _ U (at1 N a) true _ ?s1 ?s2 hA1.out).mono ?_);(case s1=> exact zq61);(case s2=>assumption);rintro e w' ⟨rfl,⟨nd,rfl⟩⟩;(try first|exact⟨rfl,_,World.drewN_drewN _ _ _⟩|exact⟨rfl,_,Eq.trans (World.drewN_drewN _ _ _) (congrArg (World.drewN _) (Nat.add_assoc _ _ _))⟩)))
        go_wp2
        go_roundg kn3
        case measure=>omega
        case rel=>exact⟨a+1,by first|go_num|(rw [wrap_small (by omega) (by have:=HLT.out;have:=HSM.out;have:=HL.out;omega)];go_num),⟨by have:=HK3.out;omega⟩,⟨by have:=HLT.out;omega⟩,⟨blk_drewN HG.out _⟩,⟨Kd.R_drewN HCA.out _⟩,⟨Kd.R_drewN HCO.out _⟩,HCC,⟨blk_drewN HX.out _⟩,⟨pw_below_drewN HB.out _⟩,⟨fun i hi=>by
         rcases Nat.lt_or_ge i a with h|h
         ·exact HS.out i h
         ·obtain rfl:i=a:=by omega
          exact⟨C1.out.1,C1.out.2,C2.out,C3.out⟩⟩⟩
       ·have hc3:(mI U a (at1 N a).toNat !=optI (leastO U))=true:=by rw [bne_iff_ne];intro h;exact c3 (optI_inj h)
        have HNO:=zqm (logicB_no3 (U:=U) (N:=N) (a:=a) zq82 (fun h=>c3 h.2.2.2))
        clear c3
        go_wp2_with fail
        go_quiet ((go_at_call 55;(with_reducible refine(impl_isAnswer.calls _ _ U (at1 N a) true _ ?s1 ?s2 hA1.out).mono ?_);(case s1=> exact zq61);(case s2=>assumption);rintro e w' ⟨rfl,⟨nd,rfl⟩⟩;(try first|exact⟨rfl,_,World.drewN_drewN _ _ _⟩|exact⟨rfl,_,Eq.trans (World.drewN_drewN _ _ _) (congrArg (World.drewN _) (Nat.add_assoc _ _ _))⟩)))
        go_wp2
        go_ret
        exact⟨pw_below_drewN HB.out _,.inr ⟨HNO.out,rfl⟩⟩
      ·have hc2:(at1 N (at1 N a).toNat !=(a:Int))=true:=by rw [bne_iff_ne];exact c2
       have p1:(0≤at1 N a)=True:=eq_true c1.1
       have p2:(at1 N a<(U.length:Int))=True:=eq_true c1.2
       have p3:(at1 N a<(N.length:Int))=True:=eq_true (by have:=HL.out;omega)
       have p4:(a<N.length)=True:=eq_true hlta
       have HNO:=zqm (logicB_no3 (U:=U) (N:=N) (a:=a) zq82 (fun h=>c2 h.2.2.1))
       clear c1 c2 hlta
       go_wp2_with fail
       go_quiet ((go_at_call 55;(with_reducible refine(impl_isAnswer.calls _ _ U (at1 N a) true _ ?s1 ?s2 hA1.out).mono ?_);(case s1=> exact zq61);(case s2=>assumption);rintro e w' ⟨rfl,⟨nd,rfl⟩⟩;(try first|exact⟨rfl,_,World.drewN_drewN _ _ _⟩|exact⟨rfl,_,Eq.trans (World.drewN_drewN _ _ _) (congrArg (World.drewN _) (Nat.add_assoc _ _ _))⟩)))
       go_wp2
       go_ret
       exact⟨pw_below_drewN HB.out _,.inr ⟨HNO.out,rfl⟩⟩
     ·have hA1:=zqm (show impl_isAnswer.f U (at1 N a)=some false by
       unfold impl_isAnswer.f
       by_cases h:at1 N a≥0
       ·rw [if_pos h];simp;exact Int.not_lt.1 fun h2=>c1 ⟨h,h2⟩
       ·rw [if_neg h])
      have p4:(a<N.length)=True:=eq_true hlta
      have HNO:=zqm (logicB_no3 (U:=U) (N:=N) (a:=a) zq82 (fun h=>c1 ⟨h.1,h.2.1⟩))
      clear c1 hlta
      go_wp2_with fail
      go_quiet ((go_at_call 55;(with_reducible refine(impl_isAnswer.calls _ _ U (at1 N a) false _ ?s1 ?s2 hA1.out).mono ?_);(case s1=> exact zq61);(case s2=>assumption);rintro e w' ⟨rfl,⟨nd,rfl⟩⟩;(try first|exact⟨rfl,_,World.drewN_drewN _ _ _⟩|exact⟨rfl,_,Eq.trans (World.drewN_drewN _ _ _) (congrArg (World.drewN _) (Nat.add_assoc _ _ _))⟩)))
      go_wp2
      go_ret
      exact⟨pw_below_drewN HB.out _,.inr ⟨HNO.out,rfl⟩⟩
    ·have hlta':decide (a<N.length)=false:=decide_eq_false hlta
     obtain rfl:a=N.length:=by have:=HK4.out;omega
     clear hlta
     have HOrd:=zqm (latticeB_order HLB.out)
     go_wp2_with fail
     go_loopg [140] (U.length+1) (fun kq v140 W=> ∃(a:Nat),v140= .int .i64 a∧Aside0 (a+kq=U.length+1)∧Aside0 (a≤U.length)∧Aside0 (W.heap[g]? =some (.cells #[.slice A0 U.length c0,.slice AA U.length cA,.slice AO U.length cO,.slice A1 N.length c1,.int .i64 (optI (leastO U)),.int .i64 (0)] 72 (0,0)))∧Aside0 (Kd.R (Kd.slice 3 (Kd.int .i64)) 23 W w.heap.size (fun _=>True) (.slice AA U.length cA) (tabI U.length (mI U)))∧Aside0 (Kd.R (Kd.slice 3 (Kd.int .i64)) 23 W w.heap.size (fun _=>True) (.slice AO U.length cO) (tabI U.length (jI U)))∧Aside0 (U.length≤cA∧U.length≤cO)∧Aside0 (W.heap[gb]? =some (.cells #[.slice A0 U.length c0,.slice A1 N.length c1] 25 (0,0)))∧Aside0 (Below w.heap.size w W)∧Aside0 (∀i,i<a→ ∀j,j<U.length→Ok5 U N i j))
     case atStart=>exact⟨0,rfl,⟨by omega⟩,⟨by omega⟩,HG,HCA,HCO,HCC,HX,HB,⟨fun i hi=>absurd hi (by omega)⟩⟩
     case round=>
      clear hq0 hq1 HG HCA HCO HCC HX HB
      obtain⟨a,rfl,HK5,HK6,HG,HCA,HCO,HCC,HX,HB,HT⟩:=hrel
      cases gk with
      |zero=>exact absurd HK5.out (by have:=HK6.out;omega)
      |succ kn4=>
      have hq0:wr.cell? ⟨gb,0,none⟩=some (.slice A0 U.length c0):=(blk_cell HX.out 0).trans rfl
      have hq1:wr.cell? ⟨gb,1,none⟩=some (.slice A1 N.length c1):=(blk_cell HX.out 1).trans rfl
      by_cases hlta:a<U.length
      ·have hlta':decide (a<U.length)=true:=decide_eq_true hlta
       have HLT:=zqm hlta
       have hrow:=HOrd.out.row a hlta
       obtain⟨adU,Ar,cr,eU,hUa,hUl,hUr⟩:=rows_cell HR0.out a (by omega) (by omega)
       subst eU
       simp only [Int.toNat_natCast] at hUa hUl hUr
       rw [hrow] at hUa hUl hUr
       replace hUa:=cell_up hUa HB.out rfl
       have HUr:=zqm (Kd.C_below hUr HB.out)
       have p1:(a<U.length)=True:=eq_true hlta
       clear hlta hrow hUr
       go_wp2_with fail
       obtain⟨wo,rfl⟩: ∃wo:World,wo=wr:=⟨_,rfl⟩
       go_loopg [147] (U.length+1) (fun kj v147 W=> ∃(b m:Nat),v147= .int .i64 b∧Aside0 (b+kj=U.length+1)∧Aside0 (b≤U.length)∧Aside0 (∀j,j<b→Ok5 U N a j)∧W=wo.drewN m)
       case atStart=>exact⟨0,0,rfl,⟨by omega⟩,⟨by omega⟩,⟨fun i hi=>absurd hi (by omega)⟩,rfl⟩
       case round=>
        obtain⟨b,m,rfl,HKj,HKj2,HU5,rfl⟩:=hrel
        cases gk with
        |zero=>exact absurd HKj.out (by have:=HKj2.out;omega)
        |succ kj=>
        by_cases hltb:b<U.length
        ·have hltb':decide (b<U.length)=true:=decide_eq_true hltb
         have HLTb:=zqm hltb
         have p2:(b<U.length)=True:=eq_true hltb
         obtain⟨adR,eR,hRb⟩:=ints_cell HUr.out b (by omega) (by omega)
         subst eR
         simp only [Int.toNat_natCast] at hRb
         have hRb':wo.cell? (adR.add b)=some (.int .i64 (at2 U a b)):=hRb
         clear hRb
         by_cases d1:leB U a b=true
         ·have hd1:(at2 U a b==1)=true:=d1
          obtain⟨q1,q2,_,_⟩:=HS.out a zq82
          obtain⟨q3,q4,_,_⟩:=HS.out b (by have:=HL.out;omega)
          obtain⟨adN,eN,hNa⟩:=ints_cell HR1.out a (by omega) zq82
          subst eN
          obtain⟨adN',eN',hNb⟩:=ints_cell HR1.out b (by omega) (by have:=HL.out;omega)
          cases eN'
          obtain⟨ad1,ad2,cr2,e1,hM1,hM2,hMl⟩:=mat_cell HR0.out HOrd.out.row (at1 N b) (at1 N a) q3 q4 q1 q2
          cases e1
          replace hNa:=cell_up hNa HB.out rfl
          replace hNb:=cell_up hNb HB.out rfl
          replace hM1:=cell_up hM1 HB.out rfl
          replace hM2:=cell_up hM2 HB.out rfl
          simp only [Int.toNat_natCast] at hNa hNb
          have p3:(0≤at1 N a)=True:=eq_true q1
          have p4:(at1 N a<(U.length:Int))=True:=eq_true q2
          have p5:(0≤at1 N b)=True:=eq_true q3
          have p6:(at1 N b<(U.length:Int))=True:=eq_true q4
          have p7:(a<N.length)=True:=eq_true zq82
          have p8:(b<N.length)=True:=eq_true (by have:=HL.out;omega)
          have D1:=zqm d1
          clear q1 q2 q3 q4 hltb d1
          by_cases d2:leB U (at1 N b).toNat (at1 N a).toNat=true
          ·have hd2:(at2 U (at1 N b).toNat (at1 N a).toNat !=1)=false:=by have h_:(at2 U (at1 N b).toNat (at1 N a).toNat==1)=true:=d2;simpa [bne] using h_
           have D2:=zqm d2
           clear d2
           go_wp2_with fail
           go_quiet (fail)
           go_wp2
           go_roundg kj
           case measure=>omega
           case rel=>exact⟨b+1,_,zq87,⟨by have:=HKj.out;omega⟩,⟨by have:=HLTb.out;omega⟩,⟨fun i hi=>by
            rcases Nat.lt_or_ge i b with h|h
            ·exact HU5.out i h
            ·obtain rfl:i=b:=by omega
             exact fun _=>D2.out⟩,rfl⟩
          ·have hd2:(at2 U (at1 N b).toNat (at1 N a).toNat !=1)=true:=by rw [bne_iff_ne];intro h_;exact d2 (by unfold leB;rw [h_];rfl)
           have HNO:=zqm (logicB_no5 (U:=U) (N:=N) (a:=a) (b:=b) HLT.out HLTb.out (fun h=>d2 (h D1.out)))
           clear d2
           go_wp2_with fail
           go_quiet (fail)
           go_wp2
           go_ret
           exact⟨by repeat(first|exact HB.out|apply pw_below_drewN|apply below_drew1),.inr ⟨HNO.out,rfl⟩⟩
         ·have hd1:(at2 U a b==1)=false:=by simpa [leB] using d1
          have D1:=zqm d1
          clear d1 hltb
          go_wp2_with fail
          go_quiet (fail)
          go_wp2
          go_roundg kj
          case measure=>omega
          case rel=>exact⟨b+1,_,zq87,⟨by have:=HKj.out;omega⟩,⟨by have:=HLTb.out;omega⟩,⟨fun i hi=>by
           rcases Nat.lt_or_ge i b with h|h
           ·exact HU5.out i h
           ·obtain rfl:i=b:=by omega
            exact fun h=>absurd h D1.out⟩,rfl⟩
        ·have hltb':decide (b<U.length)=false:=decide_eq_false hltb
         obtain rfl:b=U.length:=by have:=HKj2.out;omega
         clear hltb
         go_wp2_with fail
         go_roundg kn4
         case measure=>omega
         case rel=>exact⟨a+1,by first|go_num|(rw [wrap_small (by omega) (by have:=HLT.out;have:=HSM.out;omega)];go_num),⟨by have:=HK5.out;omega⟩,⟨by have:=HLT.out;omega⟩,⟨blk_drewN HG.out _⟩,⟨Kd.R_drewN HCA.out _⟩,⟨Kd.R_drewN HCO.out _⟩,HCC,⟨blk_drewN HX.out _⟩,⟨pw_below_drewN HB.out _⟩,⟨fun i hi=>by
          rcases Nat.lt_or_ge i a with h|h
          ·exact HT.out i h
          ·obtain rfl:i=a:=by omega
           exact HU5.out⟩⟩
      ·have hlta':decide (a<U.length)=false:=decide_eq_false hlta
       obtain rfl:a=U.length:=by have:=HK6.out;omega
       clear hlta
       have HYES:=zqm (logicB_yes (U:=U) (N:=N) HLB.out HL.out (fun i hi=>HS.out i (by have:=HL.out;omega)) HT.out)
       have HLg:=zqm (logicB_iff.1 HYES.out)
       obtain⟨mno,hmno⟩:=HLg.out.least_some
       have hno:optI (leastO U)=(mno:Int):=by rw [hmno];rfl
       have hmn:mno<U.length:=(findN_some hmno).1
       obtain⟨adN,eN,hNa⟩:=ints_cell HR1.out mno (by omega) (by have:=HL.out;omega)
       subst eN
       replace hNa:=cell_up hNa HB.out rfl
       simp only [Int.toNat_natCast] at hNa
       rw [hno] at HG
       have hg4:wr.cell? ⟨g,4,none⟩=some (.int .i64 (mno:Int)):=(blk_cell HG.out 4).trans rfl
       have hg5:wr.cell? ⟨g,5,none⟩=some (.int .i64 0):=(blk_cell HG.out 5).trans rfl
       have hf5:=blk_frozen HG.out 5
       have p1:(mno<N.length)=True:=eq_true (by have:=HL.out;omega)
       have HNO:=zqm hno
       clear hno hmno hmn
       go_wp2_with fail
       refine start_ (n:=12) (S:=(fun w'=>w'.cell? ⟨gb,1,none⟩=some (.slice (some adN) N.length c1)∧w'.cell? ⟨g,4,none⟩=some (.int .i64 (mno:Int))∧w'.cell? (adN.add mno)=some (.int .i64 (at1 N mno)))) (ds:= [11]) (zqb 12 0) zqk rfl rfl ⟨hq1,hg4,hNa⟩ (fun hHeld=>?_)
       refine with_tabW impl_told.tab34 impl_told.bits34 (fun HT_ HW_=>?_)
       refine zqp 0 175 (zqb 12 1) HT_ ?_
       refine zqp 1 176 (zqb 12 3) HT_ ?_
       refine zqp 3 178 (zqb 12 11) HT_ ?_
       refine zqp 4 179 (zqb 12 27) HT_ ?_
       refine zqp 5 180 (zqb 12 59) HT_ ?_
       refine zqw 2 177 (zqb 12 63) HT_ HW_ hHeld ?_
       refine zqw 6 181 (zqb 12 127) HT_ HW_ hHeld ?_
       refine zqp 7 182 (zqb 12 255) HT_ ?_
       refine zqw 8 183 (zqb 12 511) HT_ HW_ hHeld ?_
       refine zqp 9 184 (zqb 12 1023) HT_ ?_
       refine zqp 10 185 (zqb 12 2047) HT_ ?_
       refine last_ (i:=11) (N:=none) (zqb 12 4095) rfl rfl (one_of HT_.out zqk) (by decide) (fun K hK=>?_)
       refine skip_ (w1:=World.setCell wr.drew ⟨g,5,none⟩ (.int .i64 (at1 N mno))) (by rfl) rfl ?_ ?_
       ·go_simp
       refine hK.out _ _ ?_
       clear hK K
       refine done_ (done_of HT_.out zqk) ?_
       go_wp2
       go_ret
       refine⟨below_set (below_drew1 HB.out) HGE.out,.inl ⟨HYES.out,g,rfl,HGE.out,?_⟩⟩
       unfold AlgOf;rw [HNO.out,Int.toNat_natCast]
       have hb5:Below w.heap.size w (World.setCell wr.drew ⟨g,5,none⟩ (.int .i64 (at1 N mno))):=below_set (below_drew1 HB.out) HGE.out
       have hA5:=(Kd.R_reads' (Kd.R_set (Kd.R_drew HCA.out) (blk_drew HG.out) (by decide) 5 (.int .i64 (at1 N mno)))).2.2
       have hO5:=(Kd.R_reads' (Kd.R_set (Kd.R_drew HCO.out) (blk_drew HG.out) (by decide) 5 (.int .i64 (at1 N mno)))).2.2
       refine⟨_,c0,AA,cA,AO,cO,_,c1,?_,⟨hc0,by rw [tabI_length];exact HCC.out.1,by rw [tabI_length];exact HCC.out.2,hc1⟩,Kd.C_below HR0.out hb5,hA5,hO5,Kd.C_below HR1.out hb5⟩
       rw [tabI_length,tabI_length];exact blk_put (blk_drew HG.out) 5 _ rfl
theorem told_calls (k : Nat) (A0 : Option Addr) (c0 : Nat) (U : List (List Int)) (A1 : Option Addr) (c1 : Nat) (N : List Int) (w : World)
 (hr0:Kd.C (Kd.slice 3 (Kd.int .i64)) w A0 U.length U) (hc0:U.length≤c0) (hr1:Kd.C (Kd.int .i64) w A1 N.length N) (hc1:N.length≤c1) (hF:ToldFacts k U):Calls Try.prog 47 #[.agg #[.slice A0 U.length c0,.slice A1 N.length c1]] w (ToldPost U N w):=by
 cases hlat:latticeB U with
 |false=>
  refine(told_flat k A0 c0 U A1 c1 N w hr0 hc0 hr1 hc1 (hlat ▸ hF.lat)).mono fun e w' h=>⟨h.2,.inr ⟨?_,h.1⟩⟩
  unfold logicB;rw [hlat];rfl
 |true=>
  by_cases hl:N.length=U.length
  ·exact told_walk k A0 c0 U A1 c1 N w hr0 hc0 hr1 hc1 hF hl hlat
  ·refine(told_long k A0 c0 U A1 c1 N w hr0 hc0 hr1 hc1 (hlat ▸ hF.lat) hl).mono fun e w' h=>⟨h.2,.inr ⟨?_,h.1⟩⟩
   rw [Bool.eq_false_iff]
   intro h2
   exact hl (logicB_iff.1 h2).len
def rowOk (U : List (List Int)) (i : Nat) : Bool :=
 ((U.getD i []).length==U.length) && (leB U i i && allN U.length fun j=>(at2 U i j==0||at2 U i j==1) && ((U.getD j []).length==U.length && !(leB U i j && (!(i==j) && leB U j i))))
def transOk (U : List (List Int)) : Bool := allN U.length fun a => allN U.length fun b => allN U.length fun c => !(leB U a b && leB U b c) || leB U a c
theorem orderB_eq (U : List (List Int)) : orderB U = (decide (1 ≤ U.length) && (decide (U.length ≤ 12) && (allN U.length (rowOk U) && transOk U))) := by
 rw [Bool.eq_iff_iff,orderB_iff]
 unfold rowOk transOk
 simp only [Bool.and_eq_true,decide_eq_true_eq,allN_iff,Bool.or_eq_true,beq_iff_eq,Bool.not_eq_true',Bool.and_eq_false_iff]
 constructor
 ·intro O
  refine⟨O.pos,O.small,fun i hi=>⟨O.row i hi,O.refl i hi,fun j hj=>⟨O.bit i j hi hj,O.row j hj,?_⟩⟩,fun a ha b hb c hc=>?_⟩
  ·by_cases e:i=j
   ·right;left;simp [e]
   ·cases k1:leB U i j <;> cases k2:leB U j i <;> simp
    exact O.anti i j hi hj k1 k2
  ·cases k1:leB U a b <;> cases k2:leB U b c <;> simp
   exact O.trans a b c ha hb hc k1 k2
 ·rintro ⟨h1,h2,h3,h4⟩
  refine⟨h1,h2,fun a ha=>(h3 a ha).1,fun a b ha hb=>((h3 a ha).2.2 b hb).1,fun a ha=>(h3 a ha).2.1,fun a b ha hb k1 k2=>?_,fun a b c ha hb hc k1 k2=>?_⟩
  ·rcases ((h3 a ha).2.2 b hb).2.2 with e|e|e
   ·rw [k1] at e;exact absurd e (by simp)
   ·simpa using e
   ·rw [k2] at e;exact absurd e (by simp)
  ·rcases h4 a ha b hb c hc with (e|e)|e
   ·rw [k1] at e;exact absurd e (by simp)
   ·rw [k2] at e;exact absurd e (by simp)
   ·exact e
theorem impl_OrderOk.ev (U : List (List Int)) : Ev (fun k => impl_OrderOk.f k U) (orderB U) := by
 rw [orderB_eq]
 by_cases h1:1≤U.length
 ·by_cases h2:U.length≤12
  ·simp only [h1,h2,decide_true,Bool.true_and]
   unfold impl_OrderOk.f
   repeat(with_reducible first|refine Ev.ip ?_|refine Ev.iq ?_)
   rw [show decide ((U.length:Int)>12)=false from decide_eq_false (by omega)]
   refine Ev.succ ?_
   simp only [impl_OrderOk.j0]
   repeat(with_reducible first|refine Ev.ip ?_|refine Ev.iq ?_)
   refine Ev.eq (Ev.all (n:=U.length) (g:=fun k i=>impl_OrderOk.l0 k U U.length U U.length i) (rowOk U) (go:=transOk U) (stop:=false) (by omega) (fun hr=>?_) fun i hi hj R hR=>?_) (by cases allN U.length (rowOk U) <;> rfl)
   ·refine Ev.succ ?_
    simp only [impl_OrderOk.l0]
    repeat(with_reducible first|refine Ev.ip ?_|refine Ev.iq ?_)
    refine Ev.eq (Ev.all (n:=U.length) (g:=fun k i=>impl_OrderOk.l2 k U U.length U.length i) (fun a=>allN U.length fun b=>allN U.length fun c=>!(leB U a b && leB U b c)||leB U a c) (go:=true) (stop:=false) (by omega) (fun _=>?_) fun a ha _ R hR=>?_) (by unfold transOk;cases allN U.length _ <;> rfl)
    ·refine Ev.succ ?_
     simp only [impl_OrderOk.l2]
     repeat(with_reducible first|refine Ev.ip ?_|refine Ev.iq ?_)
     exact Ev.now _
    ·refine Ev.succ ?_
     simp only [impl_OrderOk.l2]
     repeat(with_reducible first|refine Ev.ip ?_|refine Ev.iq ?_)
     refine Ev.all (n:=U.length) (g:=fun k i=>impl_OrderOk.l3 k U U.length a U.length a U.length i) _ (by omega) (fun h=>?_) fun b hb _ R2 hR2=>?_
     ·refine Ev.succ ?_
      simp only [impl_OrderOk.l3]
      repeat(with_reducible first|refine Ev.ip ?_|refine Ev.iq ?_)
      exact hR (allN_iff.2 h)
     ·refine Ev.succ ?_
      simp only [impl_OrderOk.l3]
      repeat(with_reducible first|refine Ev.ip ?_|refine Ev.iq ?_)
      refine Ev.all (n:=U.length) (g:=fun k i=>impl_OrderOk.l4 k U U.length a b U.length a U.length b U.length i) _ (by omega) (fun h=>?_) fun c hc _ R3 hR3=>?_
      ·refine Ev.succ ?_
       simp only [impl_OrderOk.l4]
       repeat(with_reducible first|refine Ev.ip ?_|refine Ev.iq ?_)
       exact hR2 (allN_iff.2 h)
      ·refine Ev.succ ?_
       have ra:((U.getD a []).length:Int)=U.length:=by have:=hr a ha;unfold rowOk at this;simp only [Bool.and_eq_true,beq_iff_eq] at this;omega
       have rb:((U.getD b []).length:Int)=U.length:=by have:=hr b hb;unfold rowOk at this;simp only [Bool.and_eq_true,beq_iff_eq] at this;omega
       simp only [impl_OrderOk.l4,rdL_nat,rd_nat,rd_row,ra,rb]
       repeat(with_reducible first|refine Ev.ip ?_|refine Ev.iq ?_)
       by_cases e1:at2 U a b=1
       ·have f1:leB U a b=true:=by simp [leB,e1]
        by_cases e2:at2 U b c=1
        ·have f2:leB U b c=true:=by simp [leB,e2]
         by_cases e3:at2 U a c=1
         ·have f3:leB U a c=true:=by simp [leB,e3]
          repeat(with_reducible first|refine Ev.ip ?_|refine Ev.iq ?_)
          refine Ev.eq (hR3 (by simp [f3])) (by simp [f3])
         ·have f3:leB U a c=false:=by simp [leB,e3]
          repeat(with_reducible first|refine Ev.ip ?_|refine Ev.iq ?_)
          refine Ev.eq (Ev.now _) (by simp [f1,f2,f3])
        ·have f2:leB U b c=false:=by simp [leB,e2]
         repeat(with_reducible first|refine Ev.ip ?_|refine Ev.iq ?_)
         refine Ev.eq (hR3 (by simp [f2])) (by simp [f2])
       ·have f1:leB U a b=false:=by simp [leB,e1]
        repeat(with_reducible first|refine Ev.ip ?_|refine Ev.iq ?_)
        refine Ev.eq (hR3 (by simp [f1])) (by simp [f1])
   ·refine Ev.succ ?_
    simp only [impl_OrderOk.l0,rdL_nat,rd_nat,rd_row]
    repeat(with_reducible first|refine Ev.ip ?_|refine Ev.iq ?_)
    by_cases e1:(U.getD i []).length=U.length
    ·repeat(with_reducible first|refine Ev.ip ?_|refine Ev.iq ?_)
     by_cases e2:at2 U i i=1
     ·have f2:leB U i i=true:=by simp [leB,e2]
      rw [show (at2 U i i !=1)=false by simp [e2]]
      refine Ev.succ ?_
      simp only [impl_OrderOk.j2,rdL_nat,rd_nat,rd_row]
      repeat(with_reducible first|refine Ev.ip ?_|refine Ev.iq ?_)
      rw [e1]
      refine Ev.eq (Ev.all (n:=U.length) (g:=fun k j=>impl_OrderOk.l1 k U U.length i U U.length i (U.getD i []) U.length j) (fun j=>(at2 U i j==0||at2 U i j==1) && ((U.getD j []).length==U.length && !(leB U i j && (!(i==j) && leB U j i)))) (go:=R) (stop:=false) (by omega) (fun h=>?_) fun j hj _ R2 hR2=>?_) (by unfold rowOk;simp [-List.getD_eq_getElem?_getD,e1,f2])
      ·refine Ev.succ ?_
       simp only [impl_OrderOk.l1]
       repeat(with_reducible first|refine Ev.ip ?_|refine Ev.iq ?_)
       exact hR (by unfold rowOk;simp only [e1,f2,BEq.rfl,Bool.true_and];exact allN_iff.2 h)
      ·refine Ev.succ ?_
       simp only [impl_OrderOk.l1,rd_nat,rd_row]
       repeat(with_reducible first|refine Ev.ip ?_|refine Ev.iq ?_)
       have j4: ∀R3:Bool,(((U.getD j []).length=U.length→(leB U i j=true→i≠j→leB U j i=false)→Ev (fun k=>impl_OrderOk.l1 k U U.length i U U.length i (U.getD i []) U.length (wrap64 ((j:Int)+1))) R3))→
        Ev (fun k=>impl_OrderOk.j4 k U U.length i j (at2 U i j) U U.length i (U.getD i []) U.length j false) (if((U.getD j []).length==U.length && !(leB U i j && (!(i==j) && leB U j i)))=true then R3 else false):=by
        intro R3 hR3
        refine Ev.succ ?_
        simp only [impl_OrderOk.j4,rdL_nat,rd_nat,rd_row]
        repeat(with_reducible first|refine Ev.ip ?_|refine Ev.iq ?_)
        by_cases l1:(U.getD j []).length=U.length
        ·repeat(with_reducible first|refine Ev.ip ?_|refine Ev.iq ?_)
         rw [l1]
         by_cases x1:at2 U i j=1
         ·have y1:leB U i j=true:=by simp [leB,x1]
          repeat(with_reducible first|refine Ev.ip ?_|refine Ev.iq ?_)
          by_cases x2:i=j
          ·repeat(with_reducible first|refine Ev.ip ?_|refine Ev.iq ?_)
           exact Ev.eq (hR3 l1 (fun _ h=>absurd x2 h)) (by simp [x2])
          ·repeat(with_reducible first|refine Ev.ip ?_|refine Ev.iq ?_)
           by_cases x3:at2 U j i=1
           ·have y3:leB U j i=true:=by simp [leB,x3]
            repeat(with_reducible first|refine Ev.ip ?_|refine Ev.iq ?_)
            exact Ev.eq (Ev.now _) (by simp [x2,y1,y3])
           ·have y3:leB U j i=false:=by simp [leB,x3]
            repeat(with_reducible first|refine Ev.ip ?_|refine Ev.iq ?_)
            exact Ev.eq (hR3 l1 (fun _ _=>y3)) (by simp [y3])
         ·have y1:leB U i j=false:=by simp [leB,x1]
          repeat(with_reducible first|refine Ev.ip ?_|refine Ev.iq ?_)
          exact Ev.eq (hR3 l1 (fun h=>by rw [y1] at h;exact absurd h (by simp))) (by simp [y1])
        ·repeat(with_reducible first|refine Ev.ip ?_|refine Ev.iq ?_)
         exact Ev.eq (Ev.now _) (by simp [-List.getD_eq_getElem?_getD,l1])
       have hgo:at2 U i j=0∨at2 U i j=1→Ev (fun k=>impl_OrderOk.j4 k U U.length i j (at2 U i j) U U.length i (U.getD i []) U.length j false) (if((at2 U i j==0||at2 U i j==1) && ((U.getD j []).length==U.length && !(leB U i j && (!(i==j) && leB U j i))))=true then R2 else false):=by
        intro hb
        have hb1:(at2 U i j==0||at2 U i j==1)=true:=by rcases hb with h|h <;> simp [h]
        rw [hb1,Bool.true_and]
        refine j4 R2 fun l1 h=>hR2 ?_
        rw [hb1,Bool.true_and]
        simp only [l1,BEq.rfl,Bool.true_and,Bool.not_eq_true']
        cases y1:leB U i j
        ·rfl
        ·by_cases x2:i=j
         ·simp [x2]
         ·simp [h y1 x2]
       by_cases x0:at2 U i j=0
       ·repeat(with_reducible first|refine Ev.ip ?_|refine Ev.iq ?_)
        exact hgo (.inl x0)
       ·repeat(with_reducible first|refine Ev.ip ?_|refine Ev.iq ?_)
        by_cases x1:at2 U i j=1
        ·rw [show (at2 U i j !=1)=false by simp [x1]]
         exact hgo (.inr x1)
        ·rw [show (at2 U i j !=1)=true by simp [x1]]
         refine Ev.succ ?_
         simp only [impl_OrderOk.j4]
         repeat(with_reducible first|refine Ev.ip ?_|refine Ev.iq ?_)
         exact Ev.eq (Ev.now _) (by simp [x0,x1])
     ·have f2:leB U i i=false:=by simp [leB,e2]
      rw [show (at2 U i i !=1)=true by simp [e2]]
      refine Ev.succ ?_
      simp only [impl_OrderOk.j2]
      repeat(with_reducible first|refine Ev.ip ?_|refine Ev.iq ?_)
      exact Ev.eq (Ev.now _) (by unfold rowOk;simp [f2])
    ·repeat(with_reducible first|refine Ev.ip ?_|refine Ev.iq ?_)
     refine Ev.succ ?_
     simp only [impl_OrderOk.j2]
     repeat(with_reducible first|refine Ev.ip ?_|refine Ev.iq ?_)
     exact Ev.eq (Ev.now _) (by unfold rowOk;simp [-List.getD_eq_getElem?_getD,e1])
  ·simp only [h1,h2,decide_true,decide_false,Bool.true_and,Bool.false_and]
   unfold impl_OrderOk.f
   repeat(with_reducible first|refine Ev.ip ?_|refine Ev.iq ?_)
   rw [show decide ((U.length:Int)>12)=true from decide_eq_true (by omega)]
   refine Ev.succ ?_
   simp only [impl_OrderOk.j0]
   repeat(with_reducible first|refine Ev.ip ?_|refine Ev.iq ?_)
   exact Ev.now _
 ·simp only [h1,decide_false,Bool.false_and]
  unfold impl_OrderOk.f
  repeat(with_reducible first|refine Ev.ip ?_|refine Ev.iq ?_)
  refine Ev.succ ?_
  simp only [impl_OrderOk.j0]
  repeat(with_reducible first|refine Ev.ip ?_|refine Ev.iq ?_)
  exact Ev.now _
theorem turnL_len (U : List (List Int)) : (turnL U).length = U.length := by simp [turnL]
theorem turnL_at (U : List (List Int)) {a b : Nat} (ha : a < U.length) (hb : b < U.length) : at2 (turnL U) a b = at2 U b a := by simp [at2, turnL, ha, hb]
theorem turnL_le (U : List (List Int)) {a b : Nat} (ha : a < U.length) (hb : b < U.length) : leB (turnL U) a b = leB U b a := by unfold leB; rw [turnL_at U ha hb]
theorem _root_.Oml.Order.turn {U : List (List Int)} (O : Order U) : Order (turnL U) where
 pos:=by rw [turnL_len];exact O.pos
 small:=by rw [turnL_len];exact O.small
 row a ha:=by rw [turnL_len] at*;simp [turnL,ha]
 bit a b ha hb:=by rw [turnL_len] at*;rw [turnL_at U ha hb];exact O.bit b a hb ha
 refl a ha:=by rw [turnL_len] at*;rw [turnL_le U ha ha];exact O.refl a ha
 anti a b ha hb h k:=by rw [turnL_len] at*;rw [turnL_le U ha hb] at h;rw [turnL_le U hb ha] at k;exact O.anti a b ha hb k h
 trans a b c ha hb hc h k:=by rw [turnL_len] at*;rw [turnL_le U ha hb] at h;rw [turnL_le U hb hc] at k;rw [turnL_le U ha hc];exact O.trans c b a hc hb ha k h
theorem allN_congr {n : Nat} {p q : Nat → Bool} (h : ∀ i, i < n → p i = q i) : allN n p = allN n q := by
 rw [Bool.eq_iff_iff,allN_iff,allN_iff]
 exact⟨fun k i hi=>h i hi ▸ k i hi,fun k i hi=>(h i hi).symm ▸ k i hi⟩
theorem findN_congr {n : Nat} {p q : Nat → Bool} (h : ∀ i, i < n → p i = q i) : findN n p = findN n q := by
 cases e:findN n p with
 |some i=>exact(findN_of (findN_some e).1 (by rw [← h i (findN_some e).1];exact(findN_some e).2) fun j hj=>by rw [← h j (by have:=(findN_some e).1;omega)];exact findN_first e j hj).symm
 |none=>exact(findN_none.2 fun i hi=>by rw [← h i hi];exact findN_none.1 e i hi).symm
theorem meet_turn (U : List (List Int)) {a b : Nat} (ha : a < U.length) (hb : b < U.length) : mI (turnL U) a b = jI U a b := by
 unfold mI jI meetO joinO
 rw [turnL_len]
 congr 1
 refine findN_congr fun c hc=>?_
 unfold meetP joinP
 rw [turnL_le U hc ha,turnL_le U hc hb,turnL_len]
 congr 2
 refine allN_congr fun d hd=>?_
 rw [turnL_le U hd ha,turnL_le U hd hb,turnL_le U hd hc]
theorem impl_meet.ev_turn {U : List (List Int)} (O : Order U) {a b : Nat} (ha : a < U.length) (hb : b < U.length) : Ev (fun k => impl_meet.f k (turnL U) a b) (jI U a b) := by
 rw [← meet_turn U ha hb]
 exact impl_meet.ev O.turn (by rw [turnL_len];exact ha) (by rw [turnL_len];exact hb)
theorem getD_set {α : Type} (l : List α) (i j : Nat) (x d : α) (hi : i < l.length) : (l.set i x).getD j d = if j = i then x else l.getD j d := by
 by_cases e:j=i
 ·subst e;simp [hi]
 ·simp [List.getElem?_set,e,show¬(i=j) by omega]
theorem impl_turned.ev {U : List (List Int)} (O : Order U) : Ev (fun k => impl_turned.f k U) (turnL U) := by
 have hs:=O.small
 unfold impl_turned.f
 repeat(with_reducible first|refine Ev.ip ?_|refine Ev.iq ?_)
 rw [Int.toNat_natCast]
 repeat(with_reducible first|refine Ev.ip ?_|refine Ev.iq ?_)
 refine Ev.loop (g:=fun k s i=>impl_turned.l0 k U s U.length i) U.length (fun i s=>s.length=U.length∧ ∀a,a<i→s.getD a []=(List.range U.length).map fun b=>at2 U b a) (by omega) (fun s h=>?_) (fun i s hi h=>?_) _ ⟨by simp,fun a h=>absurd h (Nat.not_lt_zero _)⟩
 ·refine Ev.succ ?_
  simp only [impl_turned.l0]
  repeat(with_reducible first|refine Ev.ip ?_|refine Ev.iq ?_)
  refine Ev.eq (Ev.now s) (List.ext_getElem (by rw [h.1,turnL_len]) fun a h1 h2=>?_)
  have:=h.2 a (by omega)
  simpa [turnL,h1] using this
 ·obtain⟨h1,h2⟩:=h
  refine⟨s.set i ((List.range U.length).map fun b=>at2 U b i),⟨by simp [h1],fun a ha=>?_⟩,fun K=>Ev.succ ?_⟩
  ·rw [getD_set _ _ _ _ _ (by omega)]
   by_cases e:a=i
   ·rw [if_pos e,e]
   ·rw [if_neg e];exact h2 a (by omega)
  ·simp only [impl_turned.l0,Int.toNat_natCast]
   repeat(with_reducible first|refine Ev.ip ?_|refine Ev.iq ?_)
   refine Ev.loop (g:=fun k s j=>impl_turned.l1 k U s i U.length i U.length j) U.length (fun j t=>t.length=U.length∧(t.getD i []).length=U.length∧t.set i []=s.set i []∧ ∀b,b<j→at1 (t.getD i []) b=at2 U b i) (by omega) (fun t h=>?_) (fun j t hj h=>?_) _ ⟨by simp [h1],by rw [getD_set _ _ _ _ _ (by omega)];simp,by simp,fun b h=>absurd h (Nat.not_lt_zero _)⟩
   ·refine Ev.succ ?_
    simp only [impl_turned.l1]
    repeat(with_reducible first|refine Ev.ip ?_|refine Ev.iq ?_)
    have e:t=s.set i ((List.range U.length).map fun b=>at2 U b i):=by
     obtain⟨t1,t2,t3,t4⟩:=h
     have er:t.getD i []=(List.range U.length).map fun b=>at2 U b i:=by
      refine List.ext_getElem (by rw [t2];simp) fun b k1 k2=>?_
      have:=t4 b (by omega)
      simp only [at1] at this
      rw [List.getD_eq_getElem?_getD,List.getElem?_eq_getElem k1] at this
      simpa using this
     refine List.ext_getElem (by simp [t1,h1]) fun a k1 k2=>?_
     by_cases ea:a=i
     ·subst ea
      have:t.getD a []=t[a]:=by simp [k1]
      rw [← this,er];simp
     ·have:=congrArg (fun l=>l.getD a []) t3
      rw [getD_set _ _ _ _ _ (by omega),getD_set _ _ _ _ _ (by omega),if_neg ea,if_neg ea] at this
      have k3:a<s.length:=by omega
      simpa [k1,k3,List.getElem_set,show¬(i=a) by omega] using this
    rw [e]
    exact K
   ·obtain⟨t1,t2,t3,t4⟩:=h
    have hrow:=O.row j hj
    refine⟨t.set i ((t.getD i []).set j (at2 U j i)),⟨by simp [t1],?_,?_,fun b hb=>?_⟩,fun K=>Ev.succ ?_⟩
    ·rw [getD_set _ _ _ _ _ (by omega),if_pos rfl];simpa using t2
    ·rw [← t3];simp
    ·rw [getD_set _ _ _ _ _ (by omega),if_pos rfl]
     unfold at1
     rw [getD_set _ _ _ _ _ (by omega)]
     by_cases eb:b=j
     ·rw [if_pos eb,eb]
     ·rw [if_neg eb];exact t4 b (by omega)
    ·simp only [impl_turned.l1,rdL_nat,rd_nat,rd_row,hrow,t1,t2,Int.toNat_natCast]
     repeat(with_reducible first|refine Ev.ip ?_|refine Ev.iq ?_)
     exact K
theorem optI_neg (o : Option Nat) : (optI o < 0) ↔ o.isSome = false := by cases o <;> simp [optI] <;> omega
theorem impl_LatticeOk.ev (U : List (List Int)) : Ev (fun k => impl_LatticeOk.f k U) (latticeB U) := by
 unfold impl_LatticeOk.f latticeB
 refine Ev.bind (impl_OrderOk.ev U) ?_
 cases ho:orderB U with
 |false=>
  repeat(with_reducible first|refine Ev.ip ?_|refine Ev.iq ?_)
  exact Ev.now _
 |true=>
  have O:=orderB_iff.1 ho
  have hs:=O.small
  repeat(with_reducible first|refine Ev.ip ?_|refine Ev.iq ?_)
  refine Ev.bind (impl_turned.ev O) ?_
  refine Ev.eq (Ev.all (n:=U.length) (g:=fun k i=>impl_LatticeOk.l0 k U (turnL U) U.length i) (fun a=>allN U.length fun b=>(meetO U a b).isSome && (joinO U a b).isSome) (go:=true) (stop:=false) (by omega) (fun _=>?_) fun a ha _ R hR=>?_) (by rw [Bool.true_and];cases allN U.length _ <;> rfl)
  ·refine Ev.succ ?_
   simp only [impl_LatticeOk.l0]
   repeat(with_reducible first|refine Ev.ip ?_|refine Ev.iq ?_)
   exact Ev.now _
  ·refine Ev.succ ?_
   simp only [impl_LatticeOk.l0]
   repeat(with_reducible first|refine Ev.ip ?_|refine Ev.iq ?_)
   refine Ev.all (n:=U.length) (g:=fun k i=>impl_LatticeOk.l1 k U (turnL U) a U.length a U.length i) _ (by omega) (fun h=>?_) fun b hb _ R2 hR2=>?_
   ·refine Ev.succ ?_
    simp only [impl_LatticeOk.l1]
    repeat(with_reducible first|refine Ev.ip ?_|refine Ev.iq ?_)
    exact hR (allN_iff.2 h)
   ·refine Ev.succ ?_
    simp only [impl_LatticeOk.l1]
    repeat(with_reducible first|refine Ev.ip ?_|refine Ev.iq ?_)
    refine Ev.bind (impl_meet.ev O ha hb) ?_
    unfold mI
    cases em:meetO U a b with
    |none=>
     refine Ev.ite_pos (by simp [optI]) ?_
     exact Ev.eq (Ev.now _) (by simp)
    |some m=>
     refine Ev.ite_neg (by have:=optI_neg (some 0);simp [optI]) ?_
     refine Ev.bind (impl_meet.ev_turn O ha hb) ?_
     unfold jI
     cases ej:joinO U a b with
     |none=>
      refine Ev.ite_pos (by simp [optI]) ?_
      exact Ev.eq (Ev.now _) (by simp)
     |some j=>
      refine Ev.ite_neg (by have:=optI_neg (some 0);simp [optI]) ?_
      exact Ev.eq (hR2 (by simp [em,ej])) (by simp)
theorem impl_LeastOf.ev (U : List (List Int)) : Ev (fun k => impl_LeastOf.f k U) (if orderB U = true then (optI (leastO U), (leastO U).isSome) else (-1, false)) := by
 unfold impl_LeastOf.f
 refine Ev.bind (impl_OrderOk.ev U) ?_
 cases ho:orderB U with
 |false=>
  repeat(with_reducible first|refine Ev.ip ?_|refine Ev.iq ?_)
  exact Ev.now _
 |true=>
  have O:=orderB_iff.1 ho
  have hs:=O.small
  repeat(with_reducible first|refine Ev.ip ?_|refine Ev.iq ?_)
  refine Ev.eq (Ev.find (n:=U.length) (g:=fun k i=>impl_LeastOf.l0 k U U.length i) (fun a=>allN U.length fun b=>leB U a b) (none':=(-1,false)) (some':=fun i=>((i:Int),true)) (by omega) (fun _=>?_) fun a ha _ R hR=>?_) (by unfold leastO;cases findN U.length _ <;> rfl)
  ·refine Ev.succ ?_
   simp only [impl_LeastOf.l0]
   repeat(with_reducible first|refine Ev.ip ?_|refine Ev.iq ?_)
   exact Ev.now _
  ·refine Ev.succ ?_
   simp only [impl_LeastOf.l0,rdL_nat,O.row a ha]
   repeat(with_reducible first|refine Ev.ip ?_|refine Ev.iq ?_)
   have key: ∀d i,i+d=U.length→ ∀fl:Bool,(fl && allFrom U.length (fun b=>leB U a b) i)=allN U.length (fun b=>leB U a b)→Ev (fun k=>impl_LeastOf.l1 k a fl U U.length a (U.getD a []) U.length i) (if allN U.length (fun b=>leB U a b)=true then((a:Int),true) else R):=by
    intro d
    induction d with
    |zero=>
     intro i hi fl hfl
     refine Ev.succ ?_
     simp only [impl_LeastOf.l1]
     rw [allFrom_ge (by omega),Bool.and_true] at hfl
     rw [hfl]
     repeat(with_reducible first|refine Ev.ip ?_|refine Ev.iq ?_)
     cases ha':allN U.length (fun b=>leB U a b) with
     |true=>
      repeat(with_reducible first|refine Ev.ip ?_|refine Ev.iq ?_)
      exact Ev.now _
     |false=>
      repeat(with_reducible first|refine Ev.ip ?_|refine Ev.iq ?_)
      exact hR ha'
    |succ d ih=>
     intro i hi fl hfl
     rw [allFrom_lt (by omega)] at hfl
     refine Ev.succ ?_
     have rl:=O.row a ha
     simp only [impl_LeastOf.l1,rd_nat,rd_row,wrap_nat (show i<4611686018427387904 by omega)]
     repeat(with_reducible first|refine Ev.ip ?_|refine Ev.iq ?_)
     cases fl with
     |true=>
      repeat(with_reducible first|refine Ev.ip ?_|refine Ev.iq ?_)
      exact ih (i+1) (by omega) _ hfl
     |false=>
      repeat(with_reducible first|refine Ev.ip ?_|refine Ev.iq ?_)
      exact ih (i+1) (by omega) _ (by rw [← hfl];simp)
   exact key U.length 0 (by omega) true (by rw [allFrom_zero,Bool.true_and])
theorem told_facts (U : List (List Int)) : ∃ k, ToldFacts k U := by
 cases hl:latticeB U with
 |false=>
  obtain⟨k,hk⟩:=(impl_LatticeOk.ev U).rounds
  exact⟨k,by rw [hk,hl],fun h=>by rw [hl] at h;exact absurd h (by simp),fun h=>by rw [hl] at h;exact absurd h (by simp),fun h=>by rw [hl] at h;exact absurd h (by simp),fun h=>by rw [hl] at h;exact absurd h (by simp)⟩
 |true=>
  have O:=latticeB_order hl
  obtain⟨k1,h1⟩:=impl_LatticeOk.ev U
  obtain⟨k2,h2⟩:=impl_LeastOf.ev U
  have hm: ∃K,∀a b:Nat,a<U.length→b<U.length→ ∀k,K≤k→impl_meet.f k U a b=some (mI U a b):=Ev.all2 U.length fun a b ha hb=>impl_meet.ev O ha hb
  have hj: ∃K,∀a b:Nat,a<U.length→b<U.length→ ∀k,K≤k→impl_meet.f k (turnL U) a b=some (jI U a b):=Ev.all2 U.length fun a b ha hb=>impl_meet.ev_turn O ha hb
  obtain⟨k3,h3⟩:=hm
  obtain⟨k4,h4⟩:=hj
  obtain⟨k5,h5⟩:=impl_turned.ev O
  refine⟨k1+k2+k3+k4+k5,?_,fun _=>h5 _ (by omega),fun _ a b ha hb=>h3 a b ha hb _ (by omega),fun _ a b ha hb=>h4 a b ha hb _ (by omega),fun _=>?_⟩
  ·exact h1 _ (by omega)
  ·have:=h2 (k1+k2+k3+k4+k5) (by omega)
   rw [if_pos (orderB_iff.2 O)] at this
   exact this
end Go.Proofs.Ytndbbbnofmlkdaa.Print
end
section
namespace Go.Proofs.Ytndbbbnofmlkdaa.Print
open Go.RowKit Go.Proofs.YtndbbbnofmlkdaaW.PrintWords Go.Proofs.YtndbbbnofmlkdaaW.PrintLast Go.Proofs.YtndbbbnofmlkdaaW.PrintMore
section
attribute [local go_sem] max2_int min2_int max_two min_two max_three min_three max_four min_four
def laws_szIntS.f (l0 : List Int) (a1 : Int) : Option (Int) := if (wrap64 (a1 - (l0.length : Int))) < 0 then (some (-1)) else (some (wrap64 (a1 - (l0.length : Int))))
set_option maxHeartbeats 8000000 in
set_option maxRecDepth 100000 in
theorem laws_szIntS.calls (A0 : Option Addr) (c0 : Nat) (l0 : List Int) (a1 : Int) (r : Int) (w : World) (hr0 : Kd.C (Kd.int .i64) w A0 l0.length l0) (hc0 : l0.length ≤ c0) (h : laws_szIntS.f l0 a1 = some r) :
  Calls Try.prog 41 #[.slice A0 l0.length c0, .int .i64 a1] w fun e w' => e = .returned (.int .i64 r) ∧ Drawn0 w w' := by
 have HR0 := Aside0.mk hr0
 have HC0 := Aside0.mk hc0
 clear hr0 hc0
 have H : (if (wrap64 (a1 - (l0.length : Int))) < 0 then (some (-1)) else (some (wrap64 (a1 - (l0.length : Int))))) = some r := h
 clear h
 by_cases c3 : (wrap64 (a1 - (l0.length : Int))) < 0
 ·rw [if_pos c3] at H
  have c3b0 : decide ((wrap64 (a1 - (l0.length : Int))) < 0) = true := decide_eq_true c3
  clear c3
  obtain rfl := Option.some.inj H
  go_enter Try.func41, Try.ntmps41
  go_wp2
  go_ret
  exact ⟨zq80, by repeat (first | exact Drawn0.refl _ | apply Drawn0.step)⟩
 ·rw [if_neg c3] at H
  have c3b0 : decide ((wrap64 (a1 - (l0.length : Int))) < 0) = false := decide_eq_false c3
  clear c3
  obtain rfl := Option.some.inj H
  go_enter Try.func41, Try.ntmps41
  go_wp2
  go_ret
  exact ⟨zq80, by repeat (first | exact Drawn0.refl _ | apply Drawn0.step)⟩
end
section
attribute [local go_sem] max2_int min2_int max_two min_two max_three min_three max_four min_four
def laws_szIntSS.l0 : Nat → List (List Int) → Int → Int → Option (Int)
 | 0, _, _, _ => none
 | k + 1, x0, x1, x5 => if x5 < (x0.length : Int) then (if 0 ≤ x5 then ((laws_szIntS.f (rd_L1 x0 x5) x1).bind fun t195 => (if t195 < 0 then (some (-1)) else (laws_szIntSS.l0 k x0 t195 (wrap64 (x5 + 1))))) else (none)) else (some x1)
def laws_szIntSS.f (k : Nat) (l0 : List (List Int)) (a1 : Int) : Option (Int) := if (wrap64 (a1 - (l0.length : Int))) < 0 then (some (-1)) else (laws_szIntSS.l0 k l0 (wrap64 (a1 - (l0.length : Int))) 0)
set_option maxHeartbeats 8000000 in
set_option maxRecDepth 100000 in
theorem laws_szIntSS.calls (k : Nat) (A0 : Option Addr) (c0 : Nat) (l0 : List (List Int)) (a1 : Int) (r : Int) (w : World) (hr0 : Kd.C (Kd.slice 3 (Kd.int .i64)) w A0 l0.length l0) (hc0 : l0.length ≤ c0) (h : laws_szIntSS.f k l0 a1 = some r) :
  Calls Try.prog 40 #[.slice A0 l0.length c0, .int .i64 a1] w fun e w' => e = .returned (.int .i64 r) ∧ Drawn0 w w' := by
 have b8:=zqm hr0;have c6:=zqm hc0;clear hr0 hc0;have H:(if(wrap64 (a1 - (l0.length:Int)))<0 then(some (-1)) else(laws_szIntSS.l0 k l0 (wrap64 (a1 - (l0.length:Int))) 0))=some r:=h;clear h
 by_cases c3:(wrap64 (a1 - (l0.length:Int)))<0
 ·rw [if_pos c3] at H;have b4:decide ((wrap64 (a1 - (l0.length:Int)))<0)=true:=decide_eq_true c3;clear c3;obtain rfl:=Option.some.inj H
  go_enter Try.func40,Try.ntmps40
  go_wp2
  go_ret
  exact⟨zq3,zq4⟩
 ·rw [if_neg c3] at H;have b4:decide ((wrap64 (a1 - (l0.length:Int)))<0)=false:=decide_eq_false c3;clear c3;have H':=zqm H;clear H
  go_enter Try.func40,Try.ntmps40
  go_wp2
  go_loopg [1,5] k (fun kq v1 v5 w'=> ∃(a6:Int) (a0:Int),v1= .int .i64 a6∧v5= .int .i64 a0∧Aside0 (laws_szIntSS.l0 kq l0 a6 a0=some r)∧Aside0 (kq≤k)∧Drawn0 w w')
  case atStart=>exact⟨(wrap64 (a1 - (l0.length:Int))),(0),zq3,zq3,H',⟨Nat.le_refl _⟩,zq4⟩
  case round=>
   clear H';(try clear p2);(try clear c3);(try clear b4);obtain⟨a6,a0,rfl,rfl,HA,b7,⟨m1,rfl⟩⟩:=hrel
   cases gk with
   |zero=>exact absurd HA.out (by simp [laws_szIntSS.l0])
   |succ k1=>
    have H:=HA.out;clear HA;simp only [laws_szIntSS.l0] at H
    by_cases c4:a0<(l0.length:Int)
    ·rw [if_pos c4] at H;have b9:decide (a0<(l0.length:Int))=true:=decide_eq_true c4;clear c4
     by_cases c5:0≤a0
     ·rw [if_pos c5] at H;have c2:decide (0≤a0)=true:=decide_eq_true c5;clear c5;replace H:=Option.bind_eq_some_iff.mp H;obtain⟨a9,b6,H⟩:=H;(try dsimp only at H);have A6:=zqm b6;clear b6
      by_cases c7:a9<0
      ·rw [if_pos c7] at H;have c1:decide (a9<0)=true:=decide_eq_true c7;clear c7;obtain rfl:=Option.some.inj H;have a4:0≤(a0:Int):=zqo;have a5:a0<(l0.length:Int):=zqo;obtain⟨b5,b0,b1,b2,b3,a3,a2⟩:=at_L1 b8.out a0 a4 a5
       cases b2
       have a8:=zqm a2;have a7:=zqm a3;clear a2 a3;replace a4:=eq_true a4;replace a5:=eq_true a5
       go_wp2_with (first|((with_reducible refine gate_callee (f:=41) rfl ?_);refine goesL_ (some 23) rfl rfl Try.func41 zqk rfl #[.slice b0 (rd_L1 l0 a0).length b1,.int .i64 a6] rfl zq1 ?_;(with_reducible refine(laws_szIntS.calls _ _ (rd_L1 l0 a0) a6 a9 _ ?side1 ?side2 A6.out).mono ?_);(case side1=> exact zq75);(case side2=>exact a7.out);rintro e w' ⟨rfl,⟨nd,rfl⟩⟩;refine⟨_,rfl,?_⟩))
       go_ret
       exact⟨zq3,zq4⟩
      ·rw [if_neg c7] at H;have c1:decide (a9<0)=false:=decide_eq_false c7;clear c7;have H':=zqm H;clear H;have a4:0≤(a0:Int):=zqo;have a5:a0<(l0.length:Int):=zqo;obtain⟨b5,b0,b1,b2,b3,a3,a2⟩:=at_L1 b8.out a0 a4 a5
       cases b2
       have a8:=zqm a2;have a7:=zqm a3;clear a2 a3;replace a4:=eq_true a4;replace a5:=eq_true a5
       go_wp2_with (first|((with_reducible refine gate_callee (f:=41) rfl ?_);refine goesL_ (some 23) rfl rfl Try.func41 zqk rfl #[.slice b0 (rd_L1 l0 a0).length b1,.int .i64 a6] rfl zq1 ?_;(with_reducible refine(laws_szIntS.calls _ _ (rd_L1 l0 a0) a6 a9 _ ?side1 ?side2 A6.out).mono ?_);(case side1=> exact zq75);(case side2=>exact a7.out);rintro e w' ⟨rfl,⟨nd,rfl⟩⟩;refine⟨_,rfl,?_⟩))
       go_roundg k1
       (case measure=>have:=b7.out;omega);case rel=>exact⟨(a9),(wrap64 (a0+1)),zq3,zq3,H',⟨by have:=b7.out;omega⟩,zq4⟩
     ·rw [if_neg c5] at H;exact absurd H (by simp)
    ·rw [if_neg c4] at H;have b9:decide (a0<(l0.length:Int))=false:=decide_eq_false c4;clear c4;obtain rfl:=Option.some.inj H
     go_wp2
     go_ret
     exact⟨zq3,zq4⟩
end
section
attribute [local go_sem] max2_int min2_int max_two min_two max_three min_three max_four min_four
def laws_szLogic.f (k : Nat) (l0_0 : List (List Int)) (l0_1 : List Int) (a1 : Int) : Option (Int) := (laws_szIntSS.f k l0_0 a1).bind fun t197 => (if t197 < 0 then (some (-1)) else ((laws_szIntS.f l0_1 t197).bind fun t198 => (if t198 < 0 then (some (-1)) else (some t198))))
set_option maxHeartbeats 8000000 in
set_option maxRecDepth 100000 in
theorem laws_szLogic.calls (k : Nat) (A0_0 : Option Addr) (c0_0 : Nat) (l0_0 : List (List Int)) (A0_1 : Option Addr) (c0_1 : Nat) (l0_1 : List Int) (a1 : Int) (r : Int) (w : World) (hr0_0 : Kd.C (Kd.slice 3 (Kd.int .i64)) w A0_0 l0_0.length l0_0) (hc0_0 : l0_0.length ≤ c0_0) (hr0_1 : Kd.C (Kd.int .i64) w A0_1 l0_1.length l0_1) (hc0_1 : l0_1.length ≤ c0_1) (h : laws_szLogic.f k l0_0 l0_1 a1 = some r) :
  Calls Try.prog 22 #[.agg #[.slice A0_0 l0_0.length c0_0, .slice A0_1 l0_1.length c0_1], .int .i64 a1] w fun e w' => e = .returned (.int .i64 r) ∧ Below w.heap.size w w' := by
 have hu34:=Try.underlying34;have a8:=zqm hr0_0;have a7:=zqm hc0_0;clear hr0_0 hc0_0;have b1:=zqm hr0_1;have b0:=zqm hc0_1;clear hr0_1 hc0_1;have HB:=zqm (Below.refl w.heap.size w);have H:((laws_szIntSS.f k l0_0 a1).bind fun a3=>(if a3<0 then(some (-1)) else((laws_szIntS.f l0_1 a3).bind fun a5=>(if a5<0 then(some (-1)) else(some a5)))))=some r:=h;clear h;replace H:=Option.bind_eq_some_iff.mp H;obtain⟨a3,b2,H⟩:=H;(try dsimp only at H);have A3:=zqm b2;clear b2
 by_cases c4:a3<0
 ·rw [if_pos c4] at H;have b5:decide (a3<0)=true:=decide_eq_true c4;clear c4;obtain rfl:=Option.some.inj H
  go_enter Try.func22,Try.ntmps22
  go_wp2_with (first|((with_reducible refine gate_dst (N:=2) rfl ?_);refine box_event ?hg (N:=2) ?hd (cs:= #[.slice A0_0 l0_0.length c0_0,.slice A0_1 l0_1.length c0_1]) (t:=34) ?hr ?_;(case hd=>rfl);(case hg=>rfl);(case hr=> exact zq13);intro a2 hg w5 hbox hb;have a6:=zqm (below_step zq0 hb);have a0:=zqm (hbox);have a9:=zqm ((by rw [hg];exact(below_size zq0):w.heap.size≤a2));have a4:=zqm ((by rw [hg];exact(below_size zq0):w.heap.size≤a2));clear HB;have HB:=a6;clear a6 hb hbox hg;have c6:w5.cell? ⟨a2,0,none⟩=some (.slice A0_0 l0_0.length c0_0):=(blk_cell a0.out 0).trans rfl;have c7:w5.cell? ⟨a2,1,none⟩=some (.slice A0_1 l0_1.length c0_1):=(blk_cell a0.out 1).trans rfl;have c9:=blk_frozen a0.out 0;have d0:=blk_frozen a0.out 1)|((with_reducible refine gate_callee (f:=40) rfl ?_);refine goesL_ (some 8) rfl rfl Try.func40 zqk rfl #[.slice A0_0 l0_0.length c0_0,.int .i64 a1] rfl zq1 ?_;(with_reducible refine(laws_szIntSS.calls k _ _ l0_0 a1 a3 _ ?side1 ?side2 A3.out).mono ?_);(case side1=> exact zq23);(case side2=>exact a7.out);rintro e w' ⟨rfl,⟨nd,rfl⟩⟩;refine⟨_,rfl,?_⟩))
  go_ret
  exact⟨zq6,zq7⟩
 ·rw [if_neg c4] at H;have b5:decide (a3<0)=false:=decide_eq_false c4;clear c4;replace H:=Option.bind_eq_some_iff.mp H;obtain⟨a5,b3,H⟩:=H;(try dsimp only at H);have A7:=zqm b3;clear b3
  by_cases c8:a5<0
  ·rw [if_pos c8] at H;have b6:decide (a5<0)=true:=decide_eq_true c8;clear c8;obtain rfl:=Option.some.inj H
   go_enter Try.func22,Try.ntmps22
   go_wp2_with (first|((with_reducible refine gate_dst (N:=2) rfl ?_);refine box_event ?hg (N:=2) ?hd (cs:= #[.slice A0_0 l0_0.length c0_0,.slice A0_1 l0_1.length c0_1]) (t:=34) ?hr ?_;(case hd=>rfl);(case hg=>rfl);(case hr=> exact zq13);intro a2 hg w9 hbox hb;have a6:=zqm (below_step zq0 hb);have a0:=zqm (hbox);have a9:=zqm ((by rw [hg];exact(below_size zq0):w.heap.size≤a2));have a4:=zqm ((by rw [hg];exact(below_size zq0):w.heap.size≤a2));clear HB;have HB:=a6;clear a6 hb hbox hg;have b7:w9.cell? ⟨a2,0,none⟩=some (.slice A0_0 l0_0.length c0_0):=(blk_cell a0.out 0).trans rfl;have b8:w9.cell? ⟨a2,1,none⟩=some (.slice A0_1 l0_1.length c0_1):=(blk_cell a0.out 1).trans rfl;have c1:=blk_frozen a0.out 0;have c2:=blk_frozen a0.out 1)|((with_reducible refine gate_callee (f:=40) rfl ?_);refine goesL_ (some 8) rfl rfl Try.func40 zqk rfl #[.slice A0_0 l0_0.length c0_0,.int .i64 a1] rfl zq1 ?_;(with_reducible refine(laws_szIntSS.calls k _ _ l0_0 a1 a3 _ ?side1 ?side2 A3.out).mono ?_);(case side1=> exact zq23);(case side2=>exact a7.out);rintro e w' ⟨rfl,⟨nd,rfl⟩⟩;refine⟨_,rfl,?_⟩)|((with_reducible refine gate_callee (f:=41) rfl ?_);refine goesL_ (some 14) rfl rfl Try.func41 zqk rfl #[.slice A0_1 l0_1.length c0_1,.int .i64 a3] rfl zq1 ?_;(with_reducible refine(laws_szIntS.calls _ _ l0_1 a3 a5 _ ?side1 ?side2 A7.out).mono ?_);(case side1=> exact zq29);(case side2=>exact b0.out);rintro e w' ⟨rfl,⟨nd,rfl⟩⟩;refine⟨_,rfl,?_⟩))
   go_ret
   exact⟨zq6,zq7⟩
  ·rw [if_neg c8] at H;have b6:decide (a5<0)=false:=decide_eq_false c8;clear c8;obtain rfl:=Option.some.inj H
   go_enter Try.func22,Try.ntmps22
   go_wp2_with (first|((with_reducible refine gate_dst (N:=2) rfl ?_);refine box_event ?hg (N:=2) ?hd (cs:= #[.slice A0_0 l0_0.length c0_0,.slice A0_1 l0_1.length c0_1]) (t:=34) ?hr ?_;(case hd=>rfl);(case hg=>rfl);(case hr=> exact zq13);intro a2 hg b4 hbox hb;have a6:=zqm (below_step zq0 hb);have a0:=zqm (hbox);have a9:=zqm ((by rw [hg];exact(below_size zq0):w.heap.size≤a2));have a4:=zqm ((by rw [hg];exact(below_size zq0):w.heap.size≤a2));clear HB;have HB:=a6;clear a6 hb hbox hg;have b9:b4.cell? ⟨a2,0,none⟩=some (.slice A0_0 l0_0.length c0_0):=(blk_cell a0.out 0).trans rfl;have c0:b4.cell? ⟨a2,1,none⟩=some (.slice A0_1 l0_1.length c0_1):=(blk_cell a0.out 1).trans rfl;have c3:=blk_frozen a0.out 0;have c5:=blk_frozen a0.out 1)|((with_reducible refine gate_callee (f:=40) rfl ?_);refine goesL_ (some 8) rfl rfl Try.func40 zqk rfl #[.slice A0_0 l0_0.length c0_0,.int .i64 a1] rfl zq1 ?_;(with_reducible refine(laws_szIntSS.calls k _ _ l0_0 a1 a3 _ ?side1 ?side2 A3.out).mono ?_);(case side1=> exact zq23);(case side2=>exact a7.out);rintro e w' ⟨rfl,⟨nd,rfl⟩⟩;refine⟨_,rfl,?_⟩)|((with_reducible refine gate_callee (f:=41) rfl ?_);refine goesL_ (some 14) rfl rfl Try.func41 zqk rfl #[.slice A0_1 l0_1.length c0_1,.int .i64 a3] rfl zq1 ?_;(with_reducible refine(laws_szIntS.calls _ _ l0_1 a3 a5 _ ?side1 ?side2 A7.out).mono ?_);(case side1=> exact zq29);(case side2=>exact b0.out);rintro e w' ⟨rfl,⟨nd,rfl⟩⟩;refine⟨_,rfl,?_⟩))
   go_ret
   exact⟨zq6,zq7⟩
end
section
attribute [local go_sem] max2_int min2_int max_two min_two max_three min_three max_four min_four
def laws_toIntS.l0 : Nat → List Int → List Int → Int → Option (List Int)
 | 0, _, _, _ => none
 | k + 1, x0, x3, x4 => if x4 < (x0.length : Int) then (if 0 ≤ x4 then (if x4 < (x3.length : Int) then (laws_toIntS.l0 k x0 (x3.set (x4 : Int).toNat (rd x0 x4)) (wrap64 (x4 + 1))) else (none)) else (none)) else (some x3)
def laws_toIntS.f (k : Nat) (l0 : List Int) : Option (List Int) := if 0 ≤ (l0.length : Int) then (if ((l0.length : Int) : Int).toNat ≤ 35184372088832 then (laws_toIntS.l0 k l0 (List.replicate ((l0.length : Int) : Int).toNat 0) 0) else (none)) else (none)
set_option maxHeartbeats 8000000 in
set_option maxRecDepth 100000 in
theorem laws_toIntS.calls (k : Nat) (A0 : Option Addr) (c0 : Nat) (l0 : List Int) (r : List Int) (w : World) (hr0 : Kd.C (Kd.int .i64) w A0 l0.length l0) (hc0 : l0.length ≤ c0) (h : laws_toIntS.f k l0 = some r) :
  Calls Try.prog 46 #[.slice A0 l0.length c0] w fun e w' => ∃ v0_ : Value, e = .returned (v0_) ∧ Kd.R (Kd.int .i64) 3 w' w.heap.size (fun _ => True) v0_ r ∧ Below w.heap.size w w' := by
 have d3:=zqm hr0;have e1:=zqm hc0;clear hr0 hc0;have HB:=zqm (Below.refl w.heap.size w);have H:(if 0≤(l0.length:Int) then(if((l0.length:Int):Int).toNat≤35184372088832 then(laws_toIntS.l0 k l0 (List.replicate ((l0.length:Int):Int).toNat 0) 0) else(none)) else(none))=some r:=h;clear h
 by_cases c2:0≤(l0.length:Int)
 ·rw [if_pos c2] at H;have b9:=eq_true c2;have c1:decide (0≤(l0.length:Int))=true:=decide_eq_true c2;clear c2
  by_cases c3:((l0.length:Int):Int).toNat≤35184372088832
  ·rw [if_pos c3] at H;have c5:=eq_true c3;have c9:decide (((l0.length:Int):Int).toNat≤35184372088832)=true:=decide_eq_true c3;clear c3;obtain⟨b2,a3⟩: ∃y_:List Int,y_=(List.replicate ((l0.length:Int):Int).toNat 0):=⟨_,rfl⟩;replace H:(laws_toIntS.l0 k l0 b2 0)=some r:=zqy a3 H;have a9:=zqm a3;clear a3;have H':=zqm H;clear H
   go_enter Try.func46,Try.ntmps46
   go_wp2_with (first|((with_reducible refine gate_dst (N:=7) rfl ?_);refine Kd.R_make (Kd.int .i64) _ 3 rfl (N:=7) rfl 23 _ _ rfl (l0.length:Int) rfl rfl Try.underlying23 (.int .i64 0) 8 info3 rfl (by decide) (by omega) 0 (ok:=fun _=>True) (okp:=fun _=>True) rfl (fun _ hk=>hk) trivial (zqo) (Nat.le_trans (Nat.mul_le_mul_right _ (zqo:(l0.length:Int).toNat≤35184372088832)) (by omega)) (Below.refl _ _) (Nat.le_refl _) ?_;intro d2 w4 a5 hb hg_ hnew_;clear hg_ hnew_;(first|rw [← a9.out] at a5|(simp only [Int.reduceToNat] at a5;rw [← a9.out] at a5));have b3:=zqm (Kd.R_lower a5 (below_size zq0));replace HB:=zqm (below_step zq0 hb);clear hb a5))
   go_loopg [4] k (fun kq v4 w'=> ∃(a1:List Int) (a0:Int),v4= .int .i64 a0∧Aside0 (laws_toIntS.l0 kq l0 a1 a0=some r)∧Aside0 (kq≤k)∧Aside0 (Kd.R (Kd.int .i64) 3 w' w.heap.size (fun _=>True) d2 a1)∧Aside0 (Below w.heap.size w w'))
   case atStart=>exact⟨(b2),(0),zq3,H',⟨Nat.le_refl _⟩,⟨zqfR b3.out⟩,⟨zq0⟩⟩
   case round=>
    clear H';(try clear c2);(try clear b9);(try clear c1);(try clear p2);(try clear c3);(try clear c5);(try clear c9);(try clear c4);obtain⟨a1,a0,rfl,HA,b6,HO_3,HB⟩:=hrel
    cases gk with
    |zero=>exact absurd HA.out (by simp [laws_toIntS.l0])
    |succ k1=>
     have H:=HA.out;clear HA;simp only [laws_toIntS.l0] at H
     by_cases c6:a0<(l0.length:Int)
     ·rw [if_pos c6] at H;have d0:decide (a0<(l0.length:Int))=true:=decide_eq_true c6;clear c6
      by_cases c7:0≤a0
      ·rw [if_pos c7] at H;have d9:decide (0≤a0)=true:=decide_eq_true c7;clear c7
       by_cases c8:a0<(a1.length:Int)
       ·rw [if_pos c8] at H;have e0:decide (a0<(a1.length:Int))=true:=decide_eq_true c8;clear c8;obtain⟨a8,a4⟩: ∃y_:List Int,y_=(a1.set (a0:Int).toNat (rd l0 a0)):=⟨_,rfl⟩;replace H:(laws_toIntS.l0 k1 l0 a8 (wrap64 (a0+1)))=some r:=zqy a4 H;have b4:=zqm a4;clear a4;have H':=zqm H;clear H;have a6:0≤(a0:Int):=zqo;have a7:a0<(l0.length:Int):=zqo;obtain⟨d6,d1,a2⟩:=Kd.at_int d3.out a0 a6 a7
        cases d1
        replace a2:=(HB.out.cell (World.block_lt_of_cell? w _ a2)).trans a2;replace a6:=eq_true a6;replace a7:=eq_true a7;have p9:0≤(a0:Int):=zqo;have q9:(a0:Int)<((a1.length:Int):Int):=zqo;obtain⟨b0,d4,b7,b8,d5,e2,b5⟩:=Kd.R_form HO_3.out (by omega);(first|cases b7|(injection b7 with ea_ en_ ec_;(first|subst ea_|(injection ea_ with ea_;subst ea_));subst ec_;clear en_));have GB9:=zqm b8;have GG9:=zqm b5;clear b8 d5 b5;obtain⟨d8,d7⟩:=Kd.R_celln 0 HO_3.out (a0:Int) p9 q9;replace p9:=eq_true p9;replace q9:=eq_true q9;have HP10:=Kd.R_putg HO_3.out (a0:Int) (rd l0 a0)
        go_wp2_with (first|((with_reducible refine gate_store (t:=3) (p:=20) rfl ?_);refine store_event (t:=3) (p:=20) (v:=?vo_w11) (w1:=(wr.setCell ⟨b0,(a0:Int).toNat,none⟩ (.int .i64 (rd l0 a0)))) ?hg ?ho ?hn ?hr ?_;(case ho=>rfl);(case hg=>rfl);(case hn=>rfl);(case hr=> exact zq13);intro b1 hw;have hg:wr.grownBy b1 (some b0):=(by rw [hw];exact HP10.2);have hp_:Kd.R (Kd.int .i64) 3 b1 w.heap.size (fun _=>True) (.slice (some ⟨b0,0,none⟩) a1.length d4) a8:=(by rw [hw,b4.out];exact HP10.1);clear HP10;replace HO_3:=zqm (hp_);replace HB:=zqm ((by rw [hw];exact below_set (HB.out) GB9.out:Below w.heap.size w b1));clear hg hw hp_))
        go_roundg k1
        (case measure=>have:=b6.out;omega);case rel=>exact⟨(a8),(wrap64 (a0+1)),zq3,H',⟨by have:=b6.out;omega⟩,⟨zqfR HO_3.out⟩,⟨zq0⟩⟩
       ·rw [if_neg c8] at H;exact absurd H (by simp)
      ·rw [if_neg c7] at H;exact absurd H (by simp)
     ·rw [if_neg c6] at H;have d0:decide (a0<(l0.length:Int))=false:=decide_eq_false c6;clear c6;obtain rfl:=Option.some.inj H
      go_wp2
      go_ret
      exact⟨_,zq6,zqfR HO_3.out,zq0⟩
  ·rw [if_neg c3] at H;exact absurd H (by simp)
 ·rw [if_neg c2] at H;exact absurd H (by simp)
end
section
attribute [local go_sem] max2_int min2_int max_two min_two max_three min_three max_four min_four
def laws_toIntSS.l0 : Nat → List (List Int) → List (List Int) → Int → Option ((List (List Int)))
 | 0, _, _, _ => none
 | k + 1, x0, x3, x4 => if x4 < (x0.length : Int) then (if 0 ≤ x4 then ((laws_toIntS.f k (rd_L1 x0 x4)).bind fun t281 => (if x4 < (x3.length : Int) then (laws_toIntSS.l0 k x0 (x3.set (x4 : Int).toNat t281) (wrap64 (x4 + 1))) else (none))) else (none)) else (some x3)
def laws_toIntSS.f (k : Nat) (l0 : List (List Int)) : Option ((List (List Int))) := if 0 ≤ (l0.length : Int) then (if ((l0.length : Int) : Int).toNat ≤ 11728124029610 then (laws_toIntSS.l0 k l0 (List.replicate ((l0.length : Int) : Int).toNat []) 0) else (none)) else (none)
set_option maxHeartbeats 8000000 in
set_option maxRecDepth 100000 in
theorem laws_toIntSS.calls (k : Nat) (A0 : Option Addr) (c0 : Nat) (l0 : List (List Int)) (r : List (List Int)) (w : World) (hr0 : Kd.C (Kd.slice 3 (Kd.int .i64)) w A0 l0.length l0) (hc0 : l0.length ≤ c0) (h : laws_toIntSS.f k l0 = some r) :
  Calls Try.prog 45 #[.slice A0 l0.length c0] w fun e w' => ∃ v0_ : Value, e = .returned (v0_) ∧ Kd.S (Kd.slice 3 (Kd.int .i64)) 23 w' w.heap.size (fun _ => True) v0_ r ∧ Below w.heap.size w w' := by
 have f5:=zqm hr0;have g6:=zqm hc0;clear hr0 hc0;have HB:=zqm (Below.refl w.heap.size w);have H:(if 0≤(l0.length:Int) then(if((l0.length:Int):Int).toNat≤11728124029610 then(laws_toIntSS.l0 k l0 (List.replicate ((l0.length:Int):Int).toNat []) 0) else(none)) else(none))=some r:=h;clear h
 by_cases c2:0≤(l0.length:Int)
 ·rw [if_pos c2] at H;have e7:=eq_true c2;have e8:decide (0≤(l0.length:Int))=true:=decide_eq_true c2;clear c2
  by_cases c3:((l0.length:Int):Int).toNat≤11728124029610
  ·rw [if_pos c3] at H;have e9:=eq_true c3;have f0:decide (((l0.length:Int):Int).toNat≤11728124029610)=true:=decide_eq_true c3;clear c3;obtain⟨e2,a8⟩: ∃y_:List (List Int),y_=(List.replicate ((l0.length:Int):Int).toNat []):=⟨_,rfl⟩;replace H:(laws_toIntSS.l0 k l0 e2 0)=some r:=zqy a8 H;have b5:=zqm a8;clear a8;have H':=zqm H;clear H
   go_enter Try.func45,Try.ntmps45
   go_wp2_with (first|((with_reducible refine gate_dst (N:=7) rfl ?_);refine Kd.S_make (Kd.slice 3 (Kd.int .i64)) _ 23 rfl (N:=7) rfl 22 _ _ rfl (l0.length:Int) rfl rfl Try.underlying22 (.slice none 0 0) 24 info23 rfl (by decide) (by omega) [] (ok:=fun _=>True) (okp:=fun _=>True) ⟨_,rfl,Kd.R_nil _ _ _ _ _⟩ (fun _ hk=>hk) trivial (zqo) (Nat.le_trans (Nat.mul_le_mul_right _ (zqo:(l0.length:Int).toNat≤11728124029610)) (by omega)) (Below.refl _ _) (Nat.le_refl _) ?_;intro f4 w4 b0 hb hg_ hnew_;clear hg_ hnew_;(first|rw [← b5.out] at b0|(simp only [Int.reduceToNat] at b0;rw [← b5.out] at b0));have e3:=zqm (Kd.S_lower b0 (below_size zq0));replace HB:=zqm (below_step zq0 hb);clear hb b0))
   go_loopg [4] k (fun kq v4 w'=> ∃(a1:List (List Int)) (a0:Int),v4= .int .i64 a0∧Aside0 (laws_toIntSS.l0 kq l0 a1 a0=some r)∧Aside0 (kq≤k)∧Aside0 (Kd.S (Kd.slice 3 (Kd.int .i64)) 23 w' w.heap.size (fun _=>True) f4 a1)∧Aside0 (Below w.heap.size w w'))
   case atStart=>exact⟨(e2),(0),zq3,H',⟨Nat.le_refl _⟩,⟨zqfS e3.out⟩,⟨zq0⟩⟩
   case round=>
    clear H';(try clear c2);(try clear e7);(try clear e8);(try clear p2);(try clear c3);(try clear e9);(try clear f0);(try clear c4);obtain⟨a1,a0,rfl,HA,e6,HO_3,HB⟩:=hrel
    cases gk with
    |zero=>exact absurd HA.out (by simp [laws_toIntSS.l0])
    |succ k1=>
     have H:=HA.out;clear HA;simp only [laws_toIntSS.l0] at H
     by_cases c6:a0<(l0.length:Int)
     ·rw [if_pos c6] at H;have f1:decide (a0<(l0.length:Int))=true:=decide_eq_true c6;clear c6
      by_cases c7:0≤a0
      ·rw [if_pos c7] at H;have g1:decide (0≤a0)=true:=decide_eq_true c7;clear c7;replace H:=Option.bind_eq_some_iff.mp H;obtain⟨b3,e5,H⟩:=H;(try dsimp only at H);have A8:=zqm e5;clear e5
       by_cases c9:a0<(a1.length:Int)
       ·rw [if_pos c9] at H;have g2:decide (a0<(a1.length:Int))=true:=decide_eq_true c9;clear c9;obtain⟨b4,a9⟩: ∃y_:List (List Int),y_=(a1.set (a0:Int).toNat b3):=⟨_,rfl⟩;replace H:(laws_toIntSS.l0 k1 l0 b4 (wrap64 (a0+1)))=some r:=zqy a9 H;have e4:=zqm a9;clear a9;have H':=zqm H;clear H;have b1:0≤(a0:Int):=zqo;have b2:a0<(l0.length:Int):=zqo;obtain⟨g0,c1,c8,f2,a3,a6,a5⟩:=at_L1 f5.out a0 b1 b2
        cases f2
        replace a3:=(HB.out.cell (World.block_lt_of_cell? w _ a3)).trans a3;have b9:=zqm a5;have b8:=zqm a6;clear a5 a6;replace b1:=eq_true b1;replace b2:=eq_true b2
        go_wp2_with (first|((with_reducible refine gate_callee (f:=46) rfl ?_);refine goesL_ (some 20) rfl rfl Try.func46 zqk rfl #[.slice c1 (rd_L1 l0 a0).length c8] rfl zq1 ?_;(with_reducible refine(laws_toIntS.calls k1 _ _ (rd_L1 l0 a0) b3 _ ?side1 ?side2 A8.out).mono ?_);(case side1=> exact zq28);(case side2=>exact b8.out);rintro e e0 ⟨a4,rfl,d5,hb⟩;refine⟨_,rfl,?_⟩;replace HO_3:=zqm (Kd.S_elder' (zqfS HO_3.out) (Kd.R_base d5) hb);have a7:=zqm (Kd.R_lower d5 (below_size zq0));replace HB:=zqm (below_step zq0 hb);clear hb d5;have d8:0≤(a0:Int):=zqo;have d9:(a0:Int)<((a1.length:Int):Int):=zqo;obtain⟨a2,d0,d1,d2,f3,g5,c5⟩:=Kd.S_form HO_3.out (by omega);(first|cases d1|(injection d1 with ea_ en_ ec_;(first|subst ea_|(injection ea_ with ea_;subst ea_));subst ec_;clear en_));have GB10:=zqm d2;have GG10:=zqm c5;clear d2 f3 c5;obtain⟨_,g3,hcl10,hM10,b6,hfr10,_,_⟩:=Kd.S_elem HO_3.out [] (a0:Int) d8 d9;obtain⟨f8,rfl,f6⟩:=hM10;have d6:=b6 0 _ rfl;have d3:=hfr10 0;(try simp only [show ((Kd.slice 3 (Kd.int .i64))).sz=1 from rfl,Nat.mul_one,Nat.add_zero] at d6);(try simp only [show ((Kd.slice 3 (Kd.int .i64))).sz=1 from rfl,Nat.mul_one,Nat.add_zero] at d3);clear hcl10 b6 hfr10;(try clear hM10);replace d8:=eq_true d8;replace d9:=eq_true d9;have n_:=zqm (Kd.S_mono (ok':=(fun k_=>some k_≠(a4:Value).ownBlock)) HO_3.out (fun k_ hk=>hk.2));clear HO_3;have HO_3:=n_;clear n_;have HX12:=zqm (show Kd.S (Kd.slice 3 (Kd.int .i64)) 23 e0 w.heap.size (fun k_=>((fun _=>True)) k_∧ ¬((fun k_=>some k_=(a4:Value).ownBlock)) k_) (.slice (some ⟨a2,0,none⟩) a1.length d0) a1 from zq95);obtain⟨oki12,g4,hcl12,hM12,b7,hfr12,hoki12,hH12⟩:=Kd.S_elem HX12.out [] (a0:Int) (zqo) (by have h_:(a0:Int)<((a1.length:Int):Int):=zqo;first|exact h_|(have e_:=(Kd.S_reads' HO_3.out).1;omega)|simpa using h_);obtain⟨f9,rfl,f7⟩:=hM12;have HP12:=Kd.S_seg hH12 (zqo) (by have h_:(a0:Int)<((a1.length:Int):Int):=zqo;first|exact h_|(have e_:=(Kd.S_reads' HO_3.out).1;omega)|simpa using h_) (seg:= [a4]) (j:=0) (show 1≤1 from by decide) (x':=b3) (Kd.M_row (Kd.R_mono (Kd.R_tight rfl (Kd.R_mono (ok':=fun k_=>((fun _=>True)) k_∧k_≠a2) (Kd.R_apart' (a7.out) (Kd.S_typed HO_3.out) (by decide)) (fun k_ hk=>⟨trivial,fun e_=>(hk.2) (by rw [e_];rfl)⟩))) (fun _ h_=>Or.inr (h_)))) (fun _ hk=>hk) (fun k_ hk_=>((Kd.R_mono (ok':=fun k_=>((fun _=>True)) k_∧k_≠a2) (Kd.R_apart' (a7.out) (Kd.S_typed HO_3.out) (by decide)) (fun k_ hk=>⟨trivial,fun e_=>(hk.2) (by rw [e_];rfl)⟩))).1 k_ hk_.symm);have d7:=b7 0 _ rfl;(try simp only [show ((Kd.slice 3 (Kd.int .i64))).sz=1 from rfl,Nat.mul_one,Nat.add_zero] at d7);have d4:=hfr12 0;(try simp only [show ((Kd.slice 3 (Kd.int .i64))).sz=1 from rfl,Nat.mul_one,Nat.add_zero] at d4);clear hcl12 b7 hfr12 hoki12 hH12;(try clear hM12);(try simp only [show ((Kd.slice 3 (Kd.int .i64))).sz=1 from rfl,Nat.mul_one,Nat.add_zero] at HP12))|((with_reducible refine gate_store (t:=23) (p:=21) rfl ?_);refine store_event (t:=23) (p:=21) (v:=?vo_w13) (w1:=(e0.setCell ⟨a2,(a0:Int).toNat,none⟩ (a4))) ?hg ?ho ?hn ?hr ?_;(case ho=>rfl);(case hg=>rfl);(case hn=>rfl);(case hr=>first|(go_simp;done)|(go_simp;rfl)|(obtain⟨a_,c_,e_⟩:=Kd.R_slice (Aside0.out ‹Aside0 (Kd.R _ _ _ _ _ a4 _)›);rw [e_];first|(go_simp;done)|(go_simp;rfl)));intro e1 hw;have hg:e0.grownBy e1 (some a2):=(by rw [hw];exact HP12.2);have hp_:Kd.S (Kd.slice 3 (Kd.int .i64)) 23 e1 w.heap.size (fun _=>True) (.slice (some ⟨a2,0,none⟩) a1.length d0) b4:=(by rw [hw,e4.out];exact HP12.1);clear HP12;replace HO_3:=zqm (hp_);replace HB:=zqm ((by rw [hw];exact below_set (HB.out) GB10.out:Below w.heap.size w e1));clear a7;clear hg hw hp_))
        go_roundg k1
        (case measure=>have:=e6.out;omega);case rel=>exact⟨(b4),(wrap64 (a0+1)),zq3,H',⟨by have:=e6.out;omega⟩,⟨zqfS HO_3.out⟩,⟨zq0⟩⟩
       ·rw [if_neg c9] at H;exact absurd H (by simp)
      ·rw [if_neg c7] at H;exact absurd H (by simp)
     ·rw [if_neg c6] at H;have f1:decide (a0<(l0.length:Int))=false:=decide_eq_false c6;clear c6;obtain rfl:=Option.some.inj H
      go_wp2
      go_ret
      exact⟨_,zq6,zqfS HO_3.out,zq0⟩
  ·rw [if_neg c3] at H;exact absurd H (by simp)
 ·rw [if_neg c2] at H;exact absurd H (by simp)
end
section
attribute [local go_sem] max2_int min2_int max_two min_two max_three min_three max_four min_four
def laws_toLogic.f (k : Nat) (l0_0 : List (List Int)) (l0_1 : List Int) : Option ((List (List Int)) × List Int) := (laws_toIntSS.f k l0_0).bind fun t288 => ((laws_toIntS.f k l0_1).bind fun t291 => (some (t288, t291)))
set_option maxHeartbeats 8000000 in
set_option maxRecDepth 100000 in
theorem laws_toLogic.calls (k : Nat) (A0_0 : Option Addr) (c0_0 : Nat) (l0_0 : List (List Int)) (A0_1 : Option Addr) (c0_1 : Nat) (l0_1 : List Int) (r1 : List (List Int)) (r2 : List Int) (w : World) (hr0_0 : Kd.C (Kd.slice 3 (Kd.int .i64)) w A0_0 l0_0.length l0_0) (hc0_0 : l0_0.length ≤ c0_0) (hr0_1 : Kd.C (Kd.int .i64) w A0_1 l0_1.length l0_1) (hc0_1 : l0_1.length ≤ c0_1) (h : laws_toLogic.f k l0_0 l0_1 = some (r1, r2)) :
  Calls Try.prog 25 #[.agg #[.slice A0_0 l0_0.length c0_0, .slice A0_1 l0_1.length c0_1]] w fun e w' => ∃ v0_ v1_ : Value, e = .returned (.agg #[v0_, v1_]) ∧ Kd.S (Kd.slice 3 (Kd.int .i64)) 23 w' w.heap.size (fun k_ => some k_ ≠ (v1_ : Value).ownBlock) v0_ r1 ∧ Kd.R (Kd.int .i64) 3 w' w.heap.size (fun _ => True) v1_ r2 ∧ Below w.heap.size w w' := by
 have hu34:=Try.underlying34;have hu25:=Try.underlying25;have d0:=zqm hr0_0;have c8:=zqm hc0_0;clear hr0_0 hc0_0;have d1:=zqm hr0_1;have c9:=zqm hc0_1;clear hr0_1 hc0_1;have HB:=zqm (Below.refl w.heap.size w);have H:((laws_toIntSS.f k l0_0).bind fun a7=>((laws_toIntS.f k l0_1).bind fun a9=>(some (a7,a9))))=some (r1,r2):=h;clear h;replace H:=Option.bind_eq_some_iff.mp H;obtain⟨a7,d2,H⟩:=H;replace H:((laws_toIntS.f k l0_1).bind fun a9=>(some (a7,a9)))=some (r1,r2):=H;have A2:=zqm d2;clear d2;replace H:=Option.bind_eq_some_iff.mp H;obtain⟨a9,d3,H⟩:=H;replace H:(some (a7,a9))=some (r1,r2):=H;have A3:=zqm d3;clear d3;simp only [Option.some.injEq,Prod.mk.injEq] at H;obtain⟨rfl,rfl⟩:=H
 go_enter Try.func25,Try.ntmps25
 go_wp2_with (first|((with_reducible refine gate_dst (N:=1) rfl ?_);refine box_event ?hg (N:=1) ?hd (cs:= #[.slice A0_0 l0_0.length c0_0,.slice A0_1 l0_1.length c0_1]) (t:=34) ?hr ?_;(case hd=>rfl);(case hg=>rfl);(case hr=> exact zq13);intro a1 hg w4 hbox hb;have b5:=zqm (below_step zq0 hb);have a0:=zqm (hbox);have f7:=zqm ((by rw [hg];exact(below_size zq0):w.heap.size≤a1));have a6:=zqm ((by rw [hg];exact(below_size zq0):w.heap.size≤a1));clear HB;have HB:=b5;clear b5 hb hbox hg)|((with_reducible refine gate_dst (N:=2) rfl ?_);refine box_event ?hg (N:=2) ?hd (cs:= #[.slice none 0 0,.slice none 0 0]) (t:=25) ?hr ?_;(case hd=>rfl);(case hg=>rfl);(case hr=> exact zq13);intro a2 hg w5 hbox hb;have b5:=zqm (blk_below (g:=a1) (o:= .cells #[.slice A0_0 l0_0.length c0_0,.slice A0_1 l0_1.length c0_1] 34 (0,0)) (zqe a0.out) hb);have c4:=zqm (below_step zq2 hb);have a3:=zqm (hbox);have f8:=zqm ((by rw [hg];exact(below_size zq2):w.heap.size≤a2));have a8:=zqm ((by rw [hg];exact(below_size zq2):w.heap.size≤a2));have c0:=zqm ((by rw [hg];exact Nat.ne_of_lt (blk_lt (g:=a1) (o:= .cells #[.slice A0_0 l0_0.length c0_0,.slice A0_1 l0_1.length c0_1] 34 (0,0)) (zqe a0.out)):a1≠a2));have c1:=zqm ((by rw [hg];exact Nat.ne_of_gt (blk_lt (g:=a1) (o:= .cells #[.slice A0_0 l0_0.length c0_0,.slice A0_1 l0_1.length c0_1] 34 (0,0)) (zqe a0.out)):a2≠a1));clear a0 HB;have a0:=b5;have HB:=c4;clear b5 c4 hb hbox hg)|((with_reducible refine gate_dst (N:=3) rfl ?_);refine box_event ?hg (N:=3) ?hd (cs:= #[.slice none 0 0,.slice none 0 0]) (t:=25) ?hr ?_;(case hd=>rfl);(case hg=>rfl);(case hr=> exact zq13);intro a5 hg w6 hbox hb;have b5:=zqm (blk_below (g:=a1) (o:= .cells #[.slice A0_0 l0_0.length c0_0,.slice A0_1 l0_1.length c0_1] 34 (0,0)) (zqe a0.out) hb);have c4:=zqm (blk_below (g:=a2) (o:= .cells #[.slice none 0 0,.slice none 0 0] 25 (0,0)) (zqe a3.out) hb);have d4:=zqm (below_step zq41 hb);have a4:=zqm (hbox);have f9:=zqm ((by rw [hg];exact(below_size zq41):w.heap.size≤a5));have b1:=zqm ((by rw [hg];exact(below_size zq41):w.heap.size≤a5));have b4:=zqm ((by rw [hg];exact Nat.ne_of_lt (blk_lt (g:=a1) (o:= .cells #[.slice A0_0 l0_0.length c0_0,.slice A0_1 l0_1.length c0_1] 34 (0,0)) (zqe a0.out)):a1≠a5));have c2:=zqm ((by rw [hg];exact Nat.ne_of_gt (blk_lt (g:=a1) (o:= .cells #[.slice A0_0 l0_0.length c0_0,.slice A0_1 l0_1.length c0_1] 34 (0,0)) (zqe a0.out)):a5≠a1));have b0:=zqm ((by rw [hg];exact Nat.ne_of_lt (blk_lt (g:=a2) (o:= .cells #[.slice none 0 0,.slice none 0 0] 25 (0,0)) (zqe a3.out)):a2≠a5));have c3:=zqm ((by rw [hg];exact Nat.ne_of_gt (blk_lt (g:=a2) (o:= .cells #[.slice none 0 0,.slice none 0 0] 25 (0,0)) (zqe a3.out)):a5≠a2));clear a0 a3 HB;have a0:=b5;have a3:=c4;have HB:=d4;clear b5 c4 d4 hb hbox hg;have g2:=c0.out;have g4:=c1.out;have g3:=b4.out;have g5:=c2.out;have f3:w6.cell? ⟨a1,0,none⟩=some (.slice A0_0 l0_0.length c0_0):=(blk_cell a0.out 0).trans rfl;have f4:w6.cell? ⟨a1,1,none⟩=some (.slice A0_1 l0_1.length c0_1):=(blk_cell a0.out 1).trans rfl;have f5:=blk_frozen a0.out 0;have f6:=blk_frozen a0.out 1)|((with_reducible refine gate_callee (f:=45) rfl ?_);refine goesL_ (some 6) rfl rfl Try.func45 zqk rfl #[.slice A0_0 l0_0.length c0_0] rfl zq1 ?_;(with_reducible refine(laws_toIntSS.calls k _ _ l0_0 a7 _ ?side1 ?side2 A2.out).mono ?_);(case side1=> exact zq49);(case side2=>exact c8.out);rintro e c6 ⟨g6,rfl,b9,hb⟩;refine⟨_,rfl,?_⟩;have b6:=zqm (Kd.S_lower b9 (below_size zq18));replace a0:=zqm (blk_below (g:=a1) (o:= .cells #[.slice A0_0 l0_0.length c0_0,.slice A0_1 l0_1.length c0_1] 34 (0,0)) (zqe a0.out) hb);replace a3:=zqm (blk_below (g:=a2) (o:= .cells #[.slice none 0 0,.slice none 0 0] 25 (0,0)) (zqe a3.out) hb);replace a4:=zqm (blk_below (g:=a5) (o:= .cells #[.slice none 0 0,.slice none 0 0] 25 (0,0)) (zqe a4.out) hb);replace HB:=zqm (below_step zq18 hb);clear hb b9;obtain⟨b2,b3,d5⟩:=Kd.S_slice b6.out;subst d5;have g0:=c3.out;have g1:=b0.out;have d7:c6.cell? ⟨a5,0,none⟩=some (.slice none 0 0):=(blk_cell a4.out 0).trans rfl;have d8:c6.cell? ⟨a5,1,none⟩=some (.slice none 0 0):=(blk_cell a4.out 1).trans rfl;have e5:=blk_frozen a4.out 0;have e6:=blk_frozen a4.out 1;have d9:c6.cell? ⟨a1,0,none⟩=some (.slice A0_0 l0_0.length c0_0):=(blk_cell a0.out 0).trans rfl;have e0:c6.cell? ⟨a1,1,none⟩=some (.slice A0_1 l0_1.length c0_1):=(blk_cell a0.out 1).trans rfl;have e7:=blk_frozen a0.out 0;have e8:=blk_frozen a0.out 1)|((with_reducible refine gate_callee (f:=46) rfl ?_);refine goesL_ (some 10) rfl rfl Try.func46 zqk rfl #[.slice A0_1 l0_1.length c0_1] rfl zq1 ?_;(with_reducible refine(laws_toIntS.calls k _ _ l0_1 a9 _ ?side1 ?side2 A3.out).mono ?_);(case side1=>exact Kd.C_below d1.out zq18);(case side2=>exact c9.out);rintro e c7 ⟨g7,rfl,b9,hb⟩;refine⟨_,rfl,?_⟩;replace b6:=zqm (Kd.S_elder' (by refine zqfS ?_;exact(Kd.S_mono (Kd.S_far (p:=⟨a5,0,none⟩) (Kd.S_types b6.out a4.out (by decide)) (fun _ hk=>hk.2) (.slice b2 a7.length b3)) (fun _ h_=>h_.1))) (Kd.R_base b9) hb);have c5:=zqm (Kd.R_lower b9 (below_size zq18));replace a0:=zqm (blk_below (g:=a1) (o:= .cells #[.slice A0_0 l0_0.length c0_0,.slice A0_1 l0_1.length c0_1] 34 (0,0)) (by refine zqe ?_;refine blk_far ?_ b4.out _;refine zqe ?_;exact a0.out) hb);replace a3:=zqm (blk_below (g:=a2) (o:= .cells #[.slice none 0 0,.slice none 0 0] 25 (0,0)) (by refine zqe ?_;refine blk_far ?_ b0.out _;refine zqe ?_;exact a3.out) hb);replace a4:=zqm (blk_below (g:=a5) (o:= .cells #[.slice b2 a7.length b3,.slice none 0 0] 25 (0,0)) (by refine zqe ?_;refine blk_put (cs:= #[.slice none 0 0,.slice none 0 0]) ?_ 0 _ rfl;refine zqe ?_;exact a4.out) hb);replace HB:=zqm (below_step zq18 hb);clear hb b9;obtain⟨b7,b8,d6⟩:=Kd.R_slice c5.out;subst d6;have e1:c7.cell? ⟨a5,0,none⟩=some (.slice b2 a7.length b3):=(blk_cell a4.out 0).trans rfl;have e2:c7.cell? ⟨a5,1,none⟩=some (.slice none 0 0):=(blk_cell a4.out 1).trans rfl;have e9:=blk_frozen a4.out 0;have f0:=blk_frozen a4.out 1;have e3:c7.cell? ⟨a2,0,none⟩=some (.slice none 0 0):=(blk_cell a3.out 0).trans rfl;have e4:c7.cell? ⟨a2,1,none⟩=some (.slice none 0 0):=(blk_cell a3.out 1).trans rfl;have f1:=blk_frozen a3.out 0;have f2:=blk_frozen a3.out 1))
 refine bodyPost_ret (results_cell_row rfl _ _ a2 25 #[.slice b2 a7.length b3,.slice b7 a9.length b8] (0,0) _ rfl (by refine zqe ?_;refine blk_put (cs:= #[.slice b2 a7.length b3,.slice none 0 0]) ?_ 1 _ rfl;refine zqe ?_;refine blk_put (cs:= #[.slice none 0 0,.slice none 0 0]) ?_ 0 _ rfl;refine zqe ?_;refine blk_far ?_ b0.out _;refine zqe ?_;exact a3.out) Try.underlying25 rfl zqk) rfl ?_;exact⟨_,_,zq6,by refine zqfS ?_;exact Kd.S_mono (Kd.S_far (p:=⟨a2,1,none⟩) (Kd.S_far (p:=⟨a2,0,none⟩) (Kd.S_far (p:=⟨a5,1,none⟩) (Kd.S_types (Kd.S_types b6.out a4.out (by decide)) a3.out (by decide)) (fun _ hk=>hk.1.2) (.slice b7 a9.length b8)) (fun _ hk=>hk.2) (.slice b2 a7.length b3)) (fun _ hk=>hk.2) (.slice b7 a9.length b8)) (fun _ hk=>hk.1.1.2),by refine zqfR ?_;exact Kd.R_mono (Kd.R_far (p:=⟨a2,1,none⟩) (Kd.R_far (p:=⟨a2,0,none⟩) (Kd.R_far (p:=⟨a5,1,none⟩) (Kd.R_types (Kd.R_types c5.out a4.out (by decide)) a3.out (by decide)) (fun _ hk=>hk.1.2) (.slice b7 a9.length b8)) (fun _ hk=>hk.2) (.slice b2 a7.length b3)) (fun _ hk=>hk.2) (.slice b7 a9.length b8)) (fun _ hk=>trivial),zq18⟩
end
section
attribute [local go_sem] max2_int min2_int max_two min_two max_three min_three max_four min_four
def laws_eqIntS.l0 : Nat → List Int → List Int → Int → Option (Bool)
 | 0, _, _, _ => none
 | k + 1, x0, x1, x5 => if x5 < (x0.length : Int) then (if 0 ≤ x5 then (if x5 < (x1.length : Int) then (if (rd x0 x5) = (rd x1 x5) then (laws_eqIntS.l0 k x0 x1 (wrap64 (x5 + 1))) else (some false)) else (none)) else (none)) else (some true)
def laws_eqIntS.f (k : Nat) (l0 : List Int) (l1 : List Int) : Option (Bool) := if (l0.length : Int) = (l1.length : Int) then (laws_eqIntS.l0 k l0 l1 0) else (some false)
set_option maxHeartbeats 8000000 in
set_option maxRecDepth 100000 in
theorem laws_eqIntS.calls (k : Nat) (A0 : Option Addr) (c0 : Nat) (l0 : List Int) (A1 : Option Addr) (c1 : Nat) (l1 : List Int) (r : Bool) (w : World) (hr0 : Kd.C (Kd.int .i64) w A0 l0.length l0) (hc0 : l0.length ≤ c0) (hr1 : Kd.C (Kd.int .i64) w A1 l1.length l1) (hc1 : l1.length ≤ c1) (h : laws_eqIntS.f k l0 l1 = some r) :
  Calls Try.prog 35 #[.slice A0 l0.length c0, .slice A1 l1.length c1] w fun e w' => e = .returned (.bool r) ∧ Drawn0 w w' := by
 have b5:=zqm hr0;have c9:=zqm hc0;clear hr0 hc0;have b6:=zqm hr1;have d0:=zqm hc1;clear hr1 hc1;have H:(if(l0.length:Int)=(l1.length:Int) then(laws_eqIntS.l0 k l0 l1 0) else(some false))=some r:=h;clear h
 by_cases c3:(l0.length:Int)=(l1.length:Int)
 ·rw [if_pos c3] at H;have a9:((l0.length:Int)==(l1.length:Int))=true:=beq_iff_eq.mpr c3;have b0:((l0.length:Int) !=(l1.length:Int))=false:=bne_eq_false_iff_eq.mpr c3;(have b1:(l0.length==l1.length)=true:=by first|simpa using c3|(simp at c3 ⊢;omega));clear c3;have H':=zqm H;clear H
  go_enter Try.func35,Try.ntmps35
  go_wp2
  repeat(go_quiet (fail);try go_wp2)
  go_loopg [5] k (fun kq v5 w'=> ∃(a0:Int),v5= .int .i64 a0∧Aside0 (laws_eqIntS.l0 kq l0 l1 a0=some r)∧Aside0 (kq≤k)∧Drawn0 w w')
  case atStart=>exact⟨(0),zq3,H',⟨Nat.le_refl _⟩,zq4⟩
  case round=>
   clear H';(try clear c1);(try clear p2);(try clear c3);(try clear a9);(try clear b0);(try clear b1);obtain⟨a0,rfl,HA,b4,⟨m1,rfl⟩⟩:=hrel
   cases gk with
   |zero=>exact absurd HA.out (by simp [laws_eqIntS.l0])
   |succ k1=>
    have H:=HA.out;clear HA;simp only [laws_eqIntS.l0] at H
    by_cases c4:a0<(l0.length:Int)
    ·rw [if_pos c4] at H;have b7:decide (a0<(l0.length:Int))=true:=decide_eq_true c4;clear c4
     by_cases c5:0≤a0
     ·rw [if_pos c5] at H;have c2:decide (0≤a0)=true:=decide_eq_true c5;clear c5
      by_cases c6:a0<(l1.length:Int)
      ·rw [if_pos c6] at H;have c8:decide (a0<(l1.length:Int))=true:=decide_eq_true c6;clear c6
       by_cases c7:(rd l0 a0)=(rd l1 a0)
       ·rw [if_pos c7] at H;have b8:((rd l0 a0)==(rd l1 a0))=true:=beq_iff_eq.mpr c7;have b9:((rd l0 a0) !=(rd l1 a0))=false:=bne_eq_false_iff_eq.mpr c7;clear c7;have H':=zqm H;clear H;have a1:0≤(a0:Int):=zqo;have a3:a0<(l0.length:Int):=zqo;obtain⟨b2,a5,a7⟩:=Kd.at_int b5.out a0 a1 a3
        cases a5
        replace a1:=eq_true a1;replace a3:=eq_true a3;have a2:0≤(a0:Int):=zqo;have a4:a0<(l1.length:Int):=zqo;obtain⟨b3,a6,a8⟩:=Kd.at_int b6.out a0 a2 a4
        cases a6
        replace a2:=eq_true a2;replace a4:=eq_true a4
        go_wp2
        repeat(go_quiet (fail);try go_wp2)
        go_roundg k1
        (case measure=>have:=b4.out;omega);case rel=>exact⟨(wrap64 (a0+1)),zq3,H',⟨by have:=b4.out;omega⟩,zq4⟩
       ·rw [if_neg c7] at H;have b8:((rd l0 a0)==(rd l1 a0))=false:=beq_eq_false_iff_ne.mpr c7;have b9:((rd l0 a0) !=(rd l1 a0))=true:=bne_iff_ne.mpr c7;obtain rfl:=Option.some.inj H;have a1:0≤(a0:Int):=zqo;have a3:a0<(l0.length:Int):=zqo;obtain⟨b2,a5,a7⟩:=Kd.at_int b5.out a0 a1 a3
        cases a5
        replace a1:=eq_true a1;replace a3:=eq_true a3;have a2:0≤(a0:Int):=zqo;have a4:a0<(l1.length:Int):=zqo;obtain⟨b3,a6,a8⟩:=Kd.at_int b6.out a0 a2 a4
        cases a6
        replace a2:=eq_true a2;replace a4:=eq_true a4
        go_wp2
        repeat(go_quiet (fail);try go_wp2)
        go_ret
        exact⟨zq3,zq4⟩
      ·rw [if_neg c6] at H;exact absurd H (by simp)
     ·rw [if_neg c5] at H;exact absurd H (by simp)
    ·rw [if_neg c4] at H;have b7:decide (a0<(l0.length:Int))=false:=decide_eq_false c4;clear c4;obtain rfl:=Option.some.inj H
     go_wp2
     repeat(go_quiet (fail);try go_wp2)
     go_ret
     exact⟨zq3,zq4⟩
 ·rw [if_neg c3] at H;have a9:((l0.length:Int)==(l1.length:Int))=false:=beq_eq_false_iff_ne.mpr c3;have b0:((l0.length:Int) !=(l1.length:Int))=true:=bne_iff_ne.mpr c3;(have b1:(l0.length==l1.length)=false:=by first|simpa using c3|(simp at c3 ⊢;omega));obtain rfl:=Option.some.inj H
  go_enter Try.func35,Try.ntmps35
  go_wp2
  repeat(go_quiet (fail);try go_wp2)
  go_ret
  exact⟨zq3,zq4⟩
end
section
attribute [local go_sem] max2_int min2_int max_two min_two max_three min_three max_four min_four
def laws_eqIntSS.l0 : Nat → List (List Int) → List (List Int) → Int → Option (Bool)
 | 0, _, _, _ => none
 | k + 1, x0, x1, x5 => if x5 < (x0.length : Int) then (if 0 ≤ x5 then (if x5 < (x1.length : Int) then ((laws_eqIntS.f k (rd_L1 x0 x5) (rd_L1 x1 x5)).bind fun t141 => (if t141 = true then (laws_eqIntSS.l0 k x0 x1 (wrap64 (x5 + 1))) else (some false))) else (none)) else (none)) else (some true)
def laws_eqIntSS.f (k : Nat) (l0 : List (List Int)) (l1 : List (List Int)) : Option (Bool) := if (l0.length : Int) = (l1.length : Int) then (laws_eqIntSS.l0 k l0 l1 0) else (some false)
set_option maxHeartbeats 8000000 in
set_option maxRecDepth 100000 in
theorem laws_eqIntSS.calls (k : Nat) (A0 : Option Addr) (c0 : Nat) (l0 : List (List Int)) (A1 : Option Addr) (c1 : Nat) (l1 : List (List Int)) (r : Bool) (w : World) (hr0 : Kd.C (Kd.slice 3 (Kd.int .i64)) w A0 l0.length l0) (hc0 : l0.length ≤ c0) (hr1 : Kd.C (Kd.slice 3 (Kd.int .i64)) w A1 l1.length l1) (hc1 : l1.length ≤ c1) (h : laws_eqIntSS.f k l0 l1 = some r) :
  Calls Try.prog 34 #[.slice A0 l0.length c0, .slice A1 l1.length c1] w fun e w' => e = .returned (.bool r) ∧ Drawn0 w w' := by
 have d5:=zqm hr0;have e1:=zqm hc0;clear hr0 hc0;have d6:=zqm hr1;have e2:=zqm hc1;clear hr1 hc1;have H:(if(l0.length:Int)=(l1.length:Int) then(laws_eqIntSS.l0 k l0 l1 0) else(some false))=some r:=h;clear h
 by_cases c3:(l0.length:Int)=(l1.length:Int)
 ·rw [if_pos c3] at H;have c7:((l0.length:Int)==(l1.length:Int))=true:=beq_iff_eq.mpr c3;have c9:((l0.length:Int) !=(l1.length:Int))=false:=bne_eq_false_iff_eq.mpr c3;(have d0:(l0.length==l1.length)=true:=by first|simpa using c3|(simp at c3 ⊢;omega));clear c3;have H':=zqm H;clear H
  go_enter Try.func34,Try.ntmps34
  go_wp2
  repeat(go_quiet (fail);try go_wp2)
  go_loopg [5] k (fun kq v5 w'=> ∃(a0:Int),v5= .int .i64 a0∧Aside0 (laws_eqIntSS.l0 kq l0 l1 a0=some r)∧Aside0 (kq≤k)∧Drawn0 w w')
  case atStart=>exact⟨(0),zq3,H',⟨Nat.le_refl _⟩,zq4⟩
  case round=>
   clear H';(try clear c1);(try clear p2);(try clear c3);(try clear c7);(try clear c9);(try clear d0);obtain⟨a0,rfl,HA,d4,⟨m1,rfl⟩⟩:=hrel
   cases gk with
   |zero=>exact absurd HA.out (by simp [laws_eqIntSS.l0])
   |succ k1=>
    have H:=HA.out;clear HA;simp only [laws_eqIntSS.l0] at H
    by_cases c4:a0<(l0.length:Int)
    ·rw [if_pos c4] at H;have d7:decide (a0<(l0.length:Int))=true:=decide_eq_true c4;clear c4
     by_cases c5:0≤a0
     ·rw [if_pos c5] at H;have d9:decide (0≤a0)=true:=decide_eq_true c5;clear c5
      by_cases c6:a0<(l1.length:Int)
      ·rw [if_pos c6] at H;have e0:decide (a0<(l1.length:Int))=true:=decide_eq_true c6;clear c6;replace H:=Option.bind_eq_some_iff.mp H;obtain⟨d8,d3,H⟩:=H;(try dsimp only at H);have A7:=zqm d3;clear d3
       by_cases c8:d8=true
       ·subst c8;rw [if_pos rfl] at H;have H':=zqm H;clear H;have a9:0≤(a0:Int):=zqo;have b1:a0<(l0.length:Int):=zqo;obtain⟨d1,b7,b9,b3,b5,a7,a5⟩:=at_L1 d5.out a0 a9 b1
        cases b3
        have a3:=zqm a5;have a1:=zqm a7;clear a5 a7;replace a9:=eq_true a9;replace b1:=eq_true b1;have b0:0≤(a0:Int):=zqo;have b2:a0<(l1.length:Int):=zqo;obtain⟨d2,b8,c2,b4,b6,a8,a6⟩:=at_L1 d6.out a0 b0 b2
        cases b4
        have a4:=zqm a6;have a2:=zqm a8;clear a6 a8;replace b0:=eq_true b0;replace b2:=eq_true b2
        go_wp2_with (first|(go_at_call 35;(with_reducible refine(laws_eqIntS.calls k1 _ _ (rd_L1 l0 a0) _ _ (rd_L1 l1 a0) true _ ?side1 ?side2 ?side3 ?side4 A7.out).mono ?_);(case side1=> exact zq21);(case side2=>exact a1.out);(case side3=> exact zq22);(case side4=>exact a2.out);rintro e w' ⟨rfl,⟨nd,rfl⟩⟩;(try first|exact⟨rfl,_,World.drewN_drewN _ _ _⟩|exact⟨rfl,_,Eq.trans (World.drewN_drewN _ _ _) (congrArg (World.drewN _) (Nat.add_assoc _ _ _))⟩)))
        repeat(go_quiet (first|(go_at_call 35;(with_reducible refine(laws_eqIntS.calls k1 _ _ (rd_L1 l0 a0) _ _ (rd_L1 l1 a0) true _ ?side1 ?side2 ?side3 ?side4 A7.out).mono ?_);(case side1=> exact zq21);(case side2=>exact a1.out);(case side3=> exact zq22);(case side4=>exact a2.out);rintro e w' ⟨rfl,⟨nd,rfl⟩⟩;(try first|exact⟨rfl,_,World.drewN_drewN _ _ _⟩|exact⟨rfl,_,Eq.trans (World.drewN_drewN _ _ _) (congrArg (World.drewN _) (Nat.add_assoc _ _ _))⟩)));try go_wp2_with (first|(go_at_call 35;(with_reducible refine(laws_eqIntS.calls k1 _ _ (rd_L1 l0 a0) _ _ (rd_L1 l1 a0) true _ ?side1 ?side2 ?side3 ?side4 A7.out).mono ?_);(case side1=> exact zq21);(case side2=>exact a1.out);(case side3=> exact zq22);(case side4=>exact a2.out);rintro e w' ⟨rfl,⟨nd,rfl⟩⟩;(try first|exact⟨rfl,_,World.drewN_drewN _ _ _⟩|exact⟨rfl,_,Eq.trans (World.drewN_drewN _ _ _) (congrArg (World.drewN _) (Nat.add_assoc _ _ _))⟩))))
        go_roundg k1
        (case measure=>have:=d4.out;omega);case rel=>exact⟨(wrap64 (a0+1)),zq3,H',⟨by have:=d4.out;omega⟩,zq4⟩
       ·replace c8:=Bool.eq_false_iff.mpr c8;subst c8;rw [if_neg (show¬(false=true) by decide)] at H;obtain rfl:=Option.some.inj H;have a9:0≤(a0:Int):=zqo;have b1:a0<(l0.length:Int):=zqo;obtain⟨d1,b7,b9,b3,b5,a7,a5⟩:=at_L1 d5.out a0 a9 b1
        cases b3
        have a3:=zqm a5;have a1:=zqm a7;clear a5 a7;replace a9:=eq_true a9;replace b1:=eq_true b1;have b0:0≤(a0:Int):=zqo;have b2:a0<(l1.length:Int):=zqo;obtain⟨d2,b8,c2,b4,b6,a8,a6⟩:=at_L1 d6.out a0 b0 b2
        cases b4
        have a4:=zqm a6;have a2:=zqm a8;clear a6 a8;replace b0:=eq_true b0;replace b2:=eq_true b2
        go_wp2_with (first|(go_at_call 35;(with_reducible refine(laws_eqIntS.calls k1 _ _ (rd_L1 l0 a0) _ _ (rd_L1 l1 a0) false _ ?side1 ?side2 ?side3 ?side4 A7.out).mono ?_);(case side1=> exact zq21);(case side2=>exact a1.out);(case side3=> exact zq22);(case side4=>exact a2.out);rintro e w' ⟨rfl,⟨nd,rfl⟩⟩;(try first|exact⟨rfl,_,World.drewN_drewN _ _ _⟩|exact⟨rfl,_,Eq.trans (World.drewN_drewN _ _ _) (congrArg (World.drewN _) (Nat.add_assoc _ _ _))⟩)))
        repeat(go_quiet (first|(go_at_call 35;(with_reducible refine(laws_eqIntS.calls k1 _ _ (rd_L1 l0 a0) _ _ (rd_L1 l1 a0) false _ ?side1 ?side2 ?side3 ?side4 A7.out).mono ?_);(case side1=> exact zq21);(case side2=>exact a1.out);(case side3=> exact zq22);(case side4=>exact a2.out);rintro e w' ⟨rfl,⟨nd,rfl⟩⟩;(try first|exact⟨rfl,_,World.drewN_drewN _ _ _⟩|exact⟨rfl,_,Eq.trans (World.drewN_drewN _ _ _) (congrArg (World.drewN _) (Nat.add_assoc _ _ _))⟩)));try go_wp2_with (first|(go_at_call 35;(with_reducible refine(laws_eqIntS.calls k1 _ _ (rd_L1 l0 a0) _ _ (rd_L1 l1 a0) false _ ?side1 ?side2 ?side3 ?side4 A7.out).mono ?_);(case side1=> exact zq21);(case side2=>exact a1.out);(case side3=> exact zq22);(case side4=>exact a2.out);rintro e w' ⟨rfl,⟨nd,rfl⟩⟩;(try first|exact⟨rfl,_,World.drewN_drewN _ _ _⟩|exact⟨rfl,_,Eq.trans (World.drewN_drewN _ _ _) (congrArg (World.drewN _) (Nat.add_assoc _ _ _))⟩))))
        go_ret
        exact⟨zq3,zq4⟩
      ·rw [if_neg c6] at H;exact absurd H (by simp)
     ·rw [if_neg c5] at H;exact absurd H (by simp)
    ·rw [if_neg c4] at H;have d7:decide (a0<(l0.length:Int))=false:=decide_eq_false c4;clear c4;obtain rfl:=Option.some.inj H
     go_wp2
     repeat(go_quiet (fail);try go_wp2)
     go_ret
     exact⟨zq3,zq4⟩
 ·rw [if_neg c3] at H;have c7:((l0.length:Int)==(l1.length:Int))=false:=beq_eq_false_iff_ne.mpr c3;have c9:((l0.length:Int) !=(l1.length:Int))=true:=bne_iff_ne.mpr c3;(have d0:(l0.length==l1.length)=false:=by first|simpa using c3|(simp at c3 ⊢;omega));obtain rfl:=Option.some.inj H
  go_enter Try.func34,Try.ntmps34
  go_wp2
  repeat(go_quiet (fail);try go_wp2)
  go_ret
  exact⟨zq3,zq4⟩
end
section
attribute [local go_sem] max2_int min2_int max_two min_two max_three min_three max_four min_four
def laws_eqLogic.f (k : Nat) (l0_0 : List (List Int)) (l0_1 : List Int) (l1_0 : List (List Int)) (l1_1 : List Int) : Option (Bool) := (laws_eqIntSS.f k l0_0 l1_0).bind fun t144 => (if t144 = true then ((laws_eqIntS.f k l0_1 l1_1).bind fun t145 => (if t145 = true then (some true) else (some false))) else (some false))
set_option maxHeartbeats 8000000 in
set_option maxRecDepth 100000 in
theorem laws_eqLogic.calls (k : Nat) (A0_0 : Option Addr) (c0_0 : Nat) (l0_0 : List (List Int)) (A0_1 : Option Addr) (c0_1 : Nat) (l0_1 : List Int) (A1_0 : Option Addr) (c1_0 : Nat) (l1_0 : List (List Int)) (A1_1 : Option Addr) (c1_1 : Nat) (l1_1 : List Int) (r : Bool) (w : World) (hr0_0 : Kd.C (Kd.slice 3 (Kd.int .i64)) w A0_0 l0_0.length l0_0) (hc0_0 : l0_0.length ≤ c0_0) (hr0_1 : Kd.C (Kd.int .i64) w A0_1 l0_1.length l0_1) (hc0_1 : l0_1.length ≤ c0_1) (hr1_0 : Kd.C (Kd.slice 3 (Kd.int .i64)) w A1_0 l1_0.length l1_0) (hc1_0 : l1_0.length ≤ c1_0) (hr1_1 : Kd.C (Kd.int .i64) w A1_1 l1_1.length l1_1) (hc1_1 : l1_1.length ≤ c1_1) (h : laws_eqLogic.f k l0_0 l0_1 l1_0 l1_1 = some r) :
  Calls Try.prog 16 #[.agg #[.slice A0_0 l0_0.length c0_0, .slice A0_1 l0_1.length c0_1], .agg #[.slice A1_0 l1_0.length c1_0, .slice A1_1 l1_1.length c1_1]] w fun e w' => e = .returned (.bool r) ∧ Below w.heap.size w w' := by
 have hu25:=Try.underlying25;have b2:=zqm hr0_0;have b0:=zqm hc0_0;clear hr0_0 hc0_0;have c0:=zqm hr0_1;have b8:=zqm hc0_1;clear hr0_1 hc0_1;have b3:=zqm hr1_0;have b1:=zqm hc1_0;clear hr1_0 hc1_0;have c1:=zqm hr1_1;have b9:=zqm hc1_1;clear hr1_1 hc1_1;have HB:=zqm (Below.refl w.heap.size w);have H:((laws_eqIntSS.f k l0_0 l1_0).bind fun b4=>(if b4=true then((laws_eqIntS.f k l0_1 l1_1).bind fun b5=>(if b5=true then(some true) else(some false))) else(some false)))=some r:=h;clear h;replace H:=Option.bind_eq_some_iff.mp H;obtain⟨b4,c5,H⟩:=H;(try dsimp only at H);have A3:=zqm c5;clear c5
 by_cases c4:b4=true
 ·subst c4;rw [if_pos rfl] at H;replace H:=Option.bind_eq_some_iff.mp H;obtain⟨b5,c7,H⟩:=H;(try dsimp only at H);have A5:=zqm c7;clear c7
  by_cases c6:b5=true
  ·subst c6;rw [if_pos rfl] at H;obtain rfl:=Option.some.inj H
   go_enter Try.func16,Try.ntmps16
   go_wp2_with (first|((with_reducible refine gate_dst (N:=2) rfl ?_);refine box_event ?hg (N:=2) ?hd (cs:= #[.slice A0_0 l0_0.length c0_0,.slice A0_1 l0_1.length c0_1]) (t:=25) ?hr ?_;(case hd=>rfl);(case hg=>rfl);(case hr=> exact zq13);intro a1 hg w7 hbox hb;have a7:=zqm (below_step zq0 hb);have a0:=zqm (hbox);have b6:=zqm ((by rw [hg];exact(below_size zq0):w.heap.size≤a1));have a3:=zqm ((by rw [hg];exact(below_size zq0):w.heap.size≤a1));clear HB;have HB:=a7;clear a7 hb hbox hg)|((with_reducible refine gate_dst (N:=3) rfl ?_);refine box_event ?hg (N:=3) ?hd (cs:= #[.slice A1_0 l1_0.length c1_0,.slice A1_1 l1_1.length c1_1]) (t:=25) ?hr ?_;(case hd=>rfl);(case hg=>rfl);(case hr=> exact zq13);intro a2 hg w8 hbox hb;have a7:=zqm (blk_below (g:=a1) (o:= .cells #[.slice A0_0 l0_0.length c0_0,.slice A0_1 l0_1.length c0_1] 25 (0,0)) (zqe a0.out) hb);have a9:=zqm (below_step zq16 hb);have a4:=zqm (hbox);have b7:=zqm ((by rw [hg];exact(below_size zq16):w.heap.size≤a2));have a8:=zqm ((by rw [hg];exact(below_size zq16):w.heap.size≤a2));have a5:=zqm ((by rw [hg];exact Nat.ne_of_lt (blk_lt (g:=a1) (o:= .cells #[.slice A0_0 l0_0.length c0_0,.slice A0_1 l0_1.length c0_1] 25 (0,0)) (zqe a0.out)):a1≠a2));have a6:=zqm ((by rw [hg];exact Nat.ne_of_gt (blk_lt (g:=a1) (o:= .cells #[.slice A0_0 l0_0.length c0_0,.slice A0_1 l0_1.length c0_1] 25 (0,0)) (zqe a0.out)):a2≠a1));clear a0 HB;have a0:=a7;have HB:=a9;clear a7 a9 hb hbox hg;have f6:=a5.out;have f7:=a6.out;have c8:w8.cell? ⟨a1,0,none⟩=some (.slice A0_0 l0_0.length c0_0):=(blk_cell a0.out 0).trans rfl;have c9:w8.cell? ⟨a1,1,none⟩=some (.slice A0_1 l0_1.length c0_1):=(blk_cell a0.out 1).trans rfl;have e0:=blk_frozen a0.out 0;have e1:=blk_frozen a0.out 1;have d0:w8.cell? ⟨a2,0,none⟩=some (.slice A1_0 l1_0.length c1_0):=(blk_cell a4.out 0).trans rfl;have d1:w8.cell? ⟨a2,1,none⟩=some (.slice A1_1 l1_1.length c1_1):=(blk_cell a4.out 1).trans rfl;have e2:=blk_frozen a4.out 0;have e3:=blk_frozen a4.out 1)|((with_reducible refine gate_callee (f:=34) rfl ?_);refine goesL_ (some 9) rfl rfl Try.func34 zqk rfl #[.slice A0_0 l0_0.length c0_0,.slice A1_0 l1_0.length c1_0] rfl zq1 ?_;(with_reducible refine(laws_eqIntSS.calls k _ _ l0_0 _ _ l1_0 true _ ?side1 ?side2 ?side3 ?side4 A3.out).mono ?_);(case side1=> exact zq45);(case side2=>exact b0.out);(case side3=> exact zq19);(case side4=>exact b1.out);rintro e w' ⟨rfl,⟨nd,rfl⟩⟩;refine⟨_,rfl,?_⟩)|((with_reducible refine gate_callee (f:=35) rfl ?_);refine goesL_ (some 15) rfl rfl Try.func35 zqk rfl #[.slice A0_1 l0_1.length c0_1,.slice A1_1 l1_1.length c1_1] rfl zq1 ?_;(with_reducible refine(laws_eqIntS.calls k _ _ l0_1 _ _ l1_1 true _ ?side1 ?side2 ?side3 ?side4 A5.out).mono ?_);(case side1=> exact zq25);(case side2=>exact b8.out);(case side3=> exact zq26);(case side4=>exact b9.out);rintro e w' ⟨rfl,⟨nd,rfl⟩⟩;refine⟨_,rfl,?_⟩))
   go_ret
   exact⟨zq6,zq17⟩
  ·replace c6:=Bool.eq_false_iff.mpr c6;subst c6;rw [if_neg (show¬(false=true) by decide)] at H;obtain rfl:=Option.some.inj H
   go_enter Try.func16,Try.ntmps16
   go_wp2_with (first|((with_reducible refine gate_dst (N:=2) rfl ?_);refine box_event ?hg (N:=2) ?hd (cs:= #[.slice A0_0 l0_0.length c0_0,.slice A0_1 l0_1.length c0_1]) (t:=25) ?hr ?_;(case hd=>rfl);(case hg=>rfl);(case hr=> exact zq13);intro a1 hg f8 hbox hb;have a7:=zqm (below_step zq0 hb);have a0:=zqm (hbox);have b6:=zqm ((by rw [hg];exact(below_size zq0):w.heap.size≤a1));have a3:=zqm ((by rw [hg];exact(below_size zq0):w.heap.size≤a1));clear HB;have HB:=a7;clear a7 hb hbox hg)|((with_reducible refine gate_dst (N:=3) rfl ?_);refine box_event ?hg (N:=3) ?hd (cs:= #[.slice A1_0 l1_0.length c1_0,.slice A1_1 l1_1.length c1_1]) (t:=25) ?hr ?_;(case hd=>rfl);(case hg=>rfl);(case hr=> exact zq13);intro a2 hg c2 hbox hb;have a7:=zqm (blk_below (g:=a1) (o:= .cells #[.slice A0_0 l0_0.length c0_0,.slice A0_1 l0_1.length c0_1] 25 (0,0)) (zqe a0.out) hb);have a9:=zqm (below_step zq16 hb);have a4:=zqm (hbox);have b7:=zqm ((by rw [hg];exact(below_size zq16):w.heap.size≤a2));have a8:=zqm ((by rw [hg];exact(below_size zq16):w.heap.size≤a2));have a5:=zqm ((by rw [hg];exact Nat.ne_of_lt (blk_lt (g:=a1) (o:= .cells #[.slice A0_0 l0_0.length c0_0,.slice A0_1 l0_1.length c0_1] 25 (0,0)) (zqe a0.out)):a1≠a2));have a6:=zqm ((by rw [hg];exact Nat.ne_of_gt (blk_lt (g:=a1) (o:= .cells #[.slice A0_0 l0_0.length c0_0,.slice A0_1 l0_1.length c0_1] 25 (0,0)) (zqe a0.out)):a2≠a1));clear a0 HB;have a0:=a7;have HB:=a9;clear a7 a9 hb hbox hg;have f2:=a5.out;have f4:=a6.out;have d2:c2.cell? ⟨a1,0,none⟩=some (.slice A0_0 l0_0.length c0_0):=(blk_cell a0.out 0).trans rfl;have d3:c2.cell? ⟨a1,1,none⟩=some (.slice A0_1 l0_1.length c0_1):=(blk_cell a0.out 1).trans rfl;have e4:=blk_frozen a0.out 0;have e5:=blk_frozen a0.out 1;have d4:c2.cell? ⟨a2,0,none⟩=some (.slice A1_0 l1_0.length c1_0):=(blk_cell a4.out 0).trans rfl;have d5:c2.cell? ⟨a2,1,none⟩=some (.slice A1_1 l1_1.length c1_1):=(blk_cell a4.out 1).trans rfl;have e6:=blk_frozen a4.out 0;have e7:=blk_frozen a4.out 1)|((with_reducible refine gate_callee (f:=34) rfl ?_);refine goesL_ (some 9) rfl rfl Try.func34 zqk rfl #[.slice A0_0 l0_0.length c0_0,.slice A1_0 l1_0.length c1_0] rfl zq1 ?_;(with_reducible refine(laws_eqIntSS.calls k _ _ l0_0 _ _ l1_0 true _ ?side1 ?side2 ?side3 ?side4 A3.out).mono ?_);(case side1=> exact zq45);(case side2=>exact b0.out);(case side3=> exact zq19);(case side4=>exact b1.out);rintro e w' ⟨rfl,⟨nd,rfl⟩⟩;refine⟨_,rfl,?_⟩)|((with_reducible refine gate_callee (f:=35) rfl ?_);refine goesL_ (some 15) rfl rfl Try.func35 zqk rfl #[.slice A0_1 l0_1.length c0_1,.slice A1_1 l1_1.length c1_1] rfl zq1 ?_;(with_reducible refine(laws_eqIntS.calls k _ _ l0_1 _ _ l1_1 false _ ?side1 ?side2 ?side3 ?side4 A5.out).mono ?_);(case side1=> exact zq25);(case side2=>exact b8.out);(case side3=> exact zq26);(case side4=>exact b9.out);rintro e w' ⟨rfl,⟨nd,rfl⟩⟩;refine⟨_,rfl,?_⟩))
   go_ret
   exact⟨zq6,zq17⟩
 ·replace c4:=Bool.eq_false_iff.mpr c4;subst c4;rw [if_neg (show¬(false=true) by decide)] at H;obtain rfl:=Option.some.inj H
  go_enter Try.func16,Try.ntmps16
  go_wp2_with (first|((with_reducible refine gate_dst (N:=2) rfl ?_);refine box_event ?hg (N:=2) ?hd (cs:= #[.slice A0_0 l0_0.length c0_0,.slice A0_1 l0_1.length c0_1]) (t:=25) ?hr ?_;(case hd=>rfl);(case hg=>rfl);(case hr=> exact zq13);intro a1 hg f9 hbox hb;have a7:=zqm (below_step zq0 hb);have a0:=zqm (hbox);have b6:=zqm ((by rw [hg];exact(below_size zq0):w.heap.size≤a1));have a3:=zqm ((by rw [hg];exact(below_size zq0):w.heap.size≤a1));clear HB;have HB:=a7;clear a7 hb hbox hg)|((with_reducible refine gate_dst (N:=3) rfl ?_);refine box_event ?hg (N:=3) ?hd (cs:= #[.slice A1_0 l1_0.length c1_0,.slice A1_1 l1_1.length c1_1]) (t:=25) ?hr ?_;(case hd=>rfl);(case hg=>rfl);(case hr=> exact zq13);intro a2 hg c3 hbox hb;have a7:=zqm (blk_below (g:=a1) (o:= .cells #[.slice A0_0 l0_0.length c0_0,.slice A0_1 l0_1.length c0_1] 25 (0,0)) (zqe a0.out) hb);have a9:=zqm (below_step zq16 hb);have a4:=zqm (hbox);have b7:=zqm ((by rw [hg];exact(below_size zq16):w.heap.size≤a2));have a8:=zqm ((by rw [hg];exact(below_size zq16):w.heap.size≤a2));have a5:=zqm ((by rw [hg];exact Nat.ne_of_lt (blk_lt (g:=a1) (o:= .cells #[.slice A0_0 l0_0.length c0_0,.slice A0_1 l0_1.length c0_1] 25 (0,0)) (zqe a0.out)):a1≠a2));have a6:=zqm ((by rw [hg];exact Nat.ne_of_gt (blk_lt (g:=a1) (o:= .cells #[.slice A0_0 l0_0.length c0_0,.slice A0_1 l0_1.length c0_1] 25 (0,0)) (zqe a0.out)):a2≠a1));clear a0 HB;have a0:=a7;have HB:=a9;clear a7 a9 hb hbox hg;have f3:=a5.out;have f5:=a6.out;have d6:c3.cell? ⟨a1,0,none⟩=some (.slice A0_0 l0_0.length c0_0):=(blk_cell a0.out 0).trans rfl;have d7:c3.cell? ⟨a1,1,none⟩=some (.slice A0_1 l0_1.length c0_1):=(blk_cell a0.out 1).trans rfl;have e8:=blk_frozen a0.out 0;have e9:=blk_frozen a0.out 1;have d8:c3.cell? ⟨a2,0,none⟩=some (.slice A1_0 l1_0.length c1_0):=(blk_cell a4.out 0).trans rfl;have d9:c3.cell? ⟨a2,1,none⟩=some (.slice A1_1 l1_1.length c1_1):=(blk_cell a4.out 1).trans rfl;have f0:=blk_frozen a4.out 0;have f1:=blk_frozen a4.out 1)|((with_reducible refine gate_callee (f:=34) rfl ?_);refine goesL_ (some 9) rfl rfl Try.func34 zqk rfl #[.slice A0_0 l0_0.length c0_0,.slice A1_0 l1_0.length c1_0] rfl zq1 ?_;(with_reducible refine(laws_eqIntSS.calls k _ _ l0_0 _ _ l1_0 false _ ?side1 ?side2 ?side3 ?side4 A3.out).mono ?_);(case side1=> exact zq45);(case side2=>exact b0.out);(case side3=> exact zq19);(case side4=>exact b1.out);rintro e w' ⟨rfl,⟨nd,rfl⟩⟩;refine⟨_,rfl,?_⟩))
  go_ret
  exact⟨zq6,zq17⟩
end
end Go.Proofs.Ytndbbbnofmlkdaa.Print
end
