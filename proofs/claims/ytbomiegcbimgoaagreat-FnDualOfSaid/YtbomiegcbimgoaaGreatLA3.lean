/- Part 3 of what is common to several claims of this seat: DualL. -/
import Derived.Test.YtbomiegcbimgoaaGreatLA2
import Derived.Below
import Derived.Deep.Draws
import Derived.Deep.AppendLies
import Derived.Maps.AppendAt
import Derived.OwnWalk
import Derived.Laws.BytesArg
import Derived.Laws.MakeOwn
import Derived.Laws.OwnMore
import Derived.Deep.OwnRows
import Derived.Tactics
import Derived.Lib.ConvBytes
import Derived.Laws.Slices
import Derived.WalkKit
import Derived.KernelRfl
import Derived.RowKit3
import Derived.Deep.LoopGhost
import Derived.Deep.QuietTactic
import Derived.BigQuiet
import Derived.WideLaws
import Derived.Deep.DeepCutAuto
import Derived.Deep.CutBlock
import Derived.Deep.RegionHeld3
import Derived.Laws.Rows
import Derived.Lib.AppendStr
import Derived.ArgAppend
import Derived.Laws.IdiomCopy
import Derived.RowKit
import Derived.OrdersHeld
import Derived.Laws.BitsLemmas
import Derived.Test.YtbomiegcbimgoaaGreatProg
set_option linter.all false
section
namespace Go.Proofs.YtbomiegcbimgoaaGreat
section
variable {p : Prop}
open Go.RowKit Go.Proofs.YtbomiegcbimgoaaGreatW.PrintWords Go.Proofs.YtbomiegcbimgoaaGreatW.PrintLast
theorem zqm {p : Prop} (h : p) : Aside0 p := Aside0.mk h
theorem zqp {P : Program} {ops : Array Oper} {Q : Exit → Act → World → Prop} {md : Region.Mode} {S : World → Prop} {ds : List Nat} {T : Bool × List (List Nat × List Nat)} {oi : Oper} {v : Value} {fuel : Nat} {l : Array Bool} {a a' : Act} {w : World} (i n : Nat) (l' : Array Bool) (HT : Aside0 (rtab md ops = T)) (h : wpAnyLast P md ops Q S ds fuel l' a' w) (hi : ops[i]? = some oi := by exact rfl) (hN : oi.dst = some n := by exact rfl) (hc : anyT T l.toList l'.toList i = true := by kernel_rfl) (hQ : ∀ c a w, Q (.panic c) (a.put oi.dst v) w → Q (.panic c) a w := by exact fun _ _ _ h => h) (hw : Region.wanted oi (yielded ops a.tmps) = true := by rfl) (hr : ∀ w', (execOp a.eval oi).run P w' = .ok (.value v) w' := by intro w'; go_simp; with_reducible rfl) (ha : a.put (some n) v = a' := by simp only [Act.put, List.setIfInBounds_toArray, List.set_cons_zero, List.set_cons_succ, i64_w, i32_w]; rfl) : wpAnyLast P md ops Q S ds (fuel + 1) l a w :=
  pure_ l' hi hN (any_of HT.out hc) hQ (Or.inl ⟨hw, hr⟩) ha h
theorem zqu {P : Program} {ops : Array Oper} {Q : Exit → Act → World → Prop} {md : Region.Mode} {S : World → Prop} {ds : List Nat} {T : Bool × List (List Nat × List Nat)} {oi : Oper} {fuel : Nat} {l : Array Bool} {a a' : Act} {w : World} (i n : Nat) (l' : Array Bool) (HT : Aside0 (rtab md ops = T)) (h : wpAnyLast P md ops Q S ds fuel l' a' w) (hi : ops[i]? = some oi := by exact rfl) (hN : oi.dst = some n := by exact rfl) (hc : anyT T l.toList l'.toList i = true := by kernel_rfl) (hQ : ∀ c a w, Q (.panic c) (a.put oi.dst undef) w → Q (.panic c) a w := by exact fun _ _ _ h => h) (hw : Region.wanted oi (yielded ops a.tmps) = false := by rfl) (ha : a.put (some n) undef = a' := by simp only [Act.put, List.setIfInBounds_toArray, List.set_cons_zero, List.set_cons_succ, i64_w, i32_w]; rfl) : wpAnyLast P md ops Q S ds (fuel + 1) l a w :=
  pure_ l' hi hN (any_of HT.out hc) hQ (Or.inr ⟨hw, rfl⟩) ha h
theorem zqw {P : Program} {ops : Array Oper} {Q : Exit → Act → World → Prop} {md : Region.Mode} {S : World → Prop} {ds : List Nat} {T : Bool × List (List Nat × List Nat)} {oi : Oper} {v : Value} {fuel : Nat} {l : Array Bool} {a a' : Act} {w : World} (i n : Nat) (l' : Array Bool) (HT : Aside0 (rtab md ops = T)) {B : List Nat} (HW : Aside0 (waitsOk T.2 B = true)) (hS : S w) (h : wpAnyLast P md ops Q S ds fuel l' a' w) (hi : ops[i]? = some oi := by exact rfl) (hN : oi.dst = some n := by exact rfl) (hc : takeW T B ds l.toList l'.toList i = true := by kernel_rfl) (hQ : ∀ c a w, Q (.panic c) (a.put oi.dst v) w → Q (.panic c) a w := by exact fun _ _ _ h => h) (hw : Region.wanted oi (yielded ops a.tmps) = true := by rfl) (hr : ∀ w', S w' → (execOp a.eval oi).run P w' = .ok (.value v) w' := by intro w' hs_; (repeat obtain ⟨_, hs_⟩ := hs_); go_simp; with_reducible rfl) (ha : a.put (some n) v = a' := by simp only [Act.put, List.setIfInBounds_toArray, List.set_cons_zero, List.set_cons_succ, i64_w, i32_w]; rfl) : wpAnyLast P md ops Q S ds (fuel + 1) l a w :=
  take_ l' hi hN (take_ofW HT.out HW.out hc) hQ (Or.inl ⟨hw, hr⟩) hS ha h
theorem zqe {p q : Prop} (a : p) (h : p → q := by intro h_; (with_reducible repeat (first | refine blk_drewN ?_ _ | refine blk_drew ?_ | refine blk_alloc ?_ _)); exact h_) : q := h a
theorem zqfS {p q : Prop} (a : p) (h : p → q := by intro h_; (with_reducible repeat (first | apply Kd.S_alloc | apply Kd.S_drewN | apply Kd.S_drew)); exact h_) : q := h a
theorem zqfR {p q : Prop} (a : p) (h : p → q := by intro h_; (with_reducible repeat (first | apply Kd.R_alloc | apply Kd.R_drewN | apply Kd.R_drew)); exact h_) : q := h a
theorem zqfQ {p q : Prop} (a : p) (h : p → q := by intro h_; (with_reducible repeat (first | apply Kd.Q_alloc | apply Kd.Q_drewN | apply Kd.Q_drew)); exact h_) : q := h a
theorem zqy {α : Type} {y z : α} {P Q : Prop} (h : y = z) (H : P) (k : y = z → P → Q := by intro h H; first | (rw [h]; with_reducible exact H) | (have hv := (Option.bind_some _ _).symm.trans H; rw [h]; with_reducible exact hv) | (have hv := (Option.bind_some _ _).symm.trans H; with_reducible exact hv) | with_reducible exact H | (rw [h]; exact H) | exact H) : Q := k h H
def zqb (n k : Nat) : Array Bool := ((List.range n).map fun i => Nat.testBit k i).toArray
theorem zqk (h:p:=by kernel_rfl):p:=h
theorem zqo [Decidable p] (h:decide p=true:=by first|(with_reducible assumption)|assumption):p:=of_decide_eq_true h
theorem zqs {p : Prop} (h : p := by simp only [Act.put, List.setIfInBounds_toArray, List.set_cons_zero, List.set_cons_succ, i64_w, i32_w]; rfl) : p := h
theorem zq0 (h:p:=by repeat(first|(with_reducible first|exact HK.out|apply KeepBut.set_|apply keep_drewN|apply keep_drew|apply keep_alloc|refine keep_far ?_ a9.out _|refine keep_far ?_ b0.out _)|exact HK.out)):p:=h
theorem zq1 (h:p:=by repeat(first|(with_reducible first|exact a2.out|apply IsS57.alloc|apply IsS57.drewN|apply IsS57.drew|apply IsS57.set_1|refine IsS57.far ?_ a7.out _|refine IsS57.far ?_ a6.out _)|exact a2.out)):p:=h
theorem zq2 (h:p:=by repeat(first|(with_reducible first|exact HB.out|apply below_alloc|apply pw_below_drewN|apply below_drew1|refine below_set ?_ (IsS57.ge a2.out)|refine below_set ?_ b4.out|refine below_set ?_ b5.out)|exact HB.out)):p:=h
theorem zq3 (h:p:=by (try simp only [List.map_toArray,List.map_cons,List.map_nil]);first|done|rfl|(simp only [List.length_drop,List.length_take];rfl)):p:=h
theorem zq4 (h:p:=by repeat(first|(with_reducible first|exact HB.out|apply below_alloc|apply pw_below_drewN|apply below_drew1|refine below_set ?_ b1.out|refine below_set ?_ b2.out|refine below_set ?_ b3.out|refine below_set ?_ b4.out)|exact HB.out)):p:=h
theorem zq5 (h:p:=by repeat(first|(with_reducible first|exact HB.out|apply below_alloc|apply pw_below_drewN|apply below_drew1)|exact HB.out)):p:=h
theorem zq6 (h:p:=by repeat(first|(with_reducible first|exact HB.out|apply below_alloc|apply pw_below_drewN|apply below_drew1|refine below_set ?_ a6.out|refine below_set ?_ a7.out)|exact HB.out)):p:=h
theorem zq7 (h:p:=by repeat(first|(with_reducible first|exact HK.out|apply KeepBut.set_|apply keep_drewN|apply keep_drew|apply keep_alloc)|exact HK.out)):p:=h
theorem zq8 (h:p:=by first|rfl|(simp;done)|(simp [*];done)):p:=h
theorem zq9 (h:p:=by repeat(first|exact Drawn0.refl _|apply Drawn0.step)):p:=h
theorem zq10 (h:p:=by repeat(first|(with_reducible first|exact a0.out|apply IsS57.alloc|apply IsS57.drewN|apply IsS57.drew|apply IsS57.set_1)|exact a0.out)):p:=h
theorem zq11 (h:p:=by repeat(first|(with_reducible first|exact HB.out|apply below_alloc|apply pw_below_drewN|apply below_drew1|refine below_set ?_ (IsS57.ge a0.out))|exact HB.out)):p:=h
theorem zq12 (h:p:=by exact(below_size (by repeat(first|(with_reducible first|exact HB.out|apply below_alloc|apply pw_below_drewN|apply below_drew1|refine below_set ?_ b1.out|refine below_set ?_ b2.out|refine below_set ?_ b3.out|refine below_set ?_ b4.out)|exact HB.out)))):p:=h
theorem zq13 (h:p:=by exact(by repeat(first|(with_reducible first|exact HB.out|apply below_alloc|apply pw_below_drewN|apply below_drew1|refine below_set ?_ b1.out|refine below_set ?_ b2.out|refine below_set ?_ b3.out|refine below_set ?_ b4.out)|exact HB.out))):p:=h
theorem zq14 (h:p:=by repeat(first|(with_reducible first|exact HB.out|apply below_alloc|apply pw_below_drewN|apply below_drew1|refine below_set ?_ b1.out|refine below_set ?_ b4.out|refine below_set ?_ b9.out)|exact HB.out)):p:=h
theorem zq15 (h:p:=by repeat(first|(with_reducible first|exact a0.out|apply IsS57.alloc|apply IsS57.drewN|apply IsS57.drew|apply IsS57.set_1|refine IsS57.far ?_ a7.out _|refine IsS57.far ?_ a9.out _)|exact a0.out)):p:=h
theorem zq16 (h:p:=by first|(go_simp;done)|(go_simp;rfl)):p:=h
theorem zq17 (h:p:=by repeat(first|(with_reducible first|exact HB.out|apply below_alloc|apply pw_below_drewN|apply below_drew1|refine below_set ?_ GE.out)|exact HB.out)):p:=h
theorem zq18 (h:p:=by first|rfl|(simp [errW_none,errW_some] <;> rfl)|(simp [*,errW_none,errW_some] <;> rfl)):p:=h
theorem zq19 (h:p:=by repeat(first|(with_reducible first|exact HB.out|apply below_alloc|apply pw_below_drewN|apply below_drew1|refine below_set ?_ (IsS57.ge a4.out))|exact HB.out)):p:=h
theorem zq20 (h:p:=by exact(below_size (by repeat(first|(with_reducible first|exact HB.out|apply below_alloc|apply pw_below_drewN|apply below_drew1|refine below_set ?_ a6.out|refine below_set ?_ a7.out)|exact HB.out)))):p:=h
theorem zq21 (h:p:=by repeat(first|(with_reducible first|exact a4.out|apply IsS57.alloc|apply IsS57.drewN|apply IsS57.drew|apply IsS57.set_1)|exact a4.out)):p:=h
theorem zq22 (h:p:=by exact(by repeat(first|(with_reducible first|exact HB.out|apply below_alloc|apply pw_below_drewN|apply below_drew1|refine below_set ?_ a6.out|refine below_set ?_ a7.out)|exact HB.out))):p:=h
theorem zq23 (h:p:=by repeat(first|(with_reducible first|exact HB.out|apply below_alloc|apply pw_below_drewN|apply below_drew1|refine below_set ?_ b2.out)|exact HB.out)):p:=h
theorem zq24 (h:p:=by repeat(first|(with_reducible first|exact HB.out|apply below_alloc|apply pw_below_drewN|apply below_drew1|refine below_set ?_ b1.out)|exact HB.out)):p:=h
theorem zq25 (h:p:=by repeat(first|(with_reducible first|exact a0.out|apply IsS57.alloc|apply IsS57.drewN|apply IsS57.drew|apply IsS57.set_1|refine IsS57.far ?_ a7.out _)|exact a0.out)):p:=h
theorem zq26 (h:p:=by repeat(first|(with_reducible first|exact HB.out|apply below_alloc|apply pw_below_drewN|apply below_drew1|refine below_set ?_ (IsS57.ge a0.out)|refine below_set ?_ c2.out|refine below_set ?_ c9.out)|exact HB.out)):p:=h
theorem zq27 (h:p:=by repeat(first|(with_reducible first|exact HB.out|apply below_alloc|apply pw_below_drewN|apply below_drew1|refine below_set ?_ b1.out|refine below_set ?_ b4.out)|exact HB.out)):p:=h
theorem zq28 (h:p:=by repeat(first|(with_reducible first|exact HK.out|apply KeepBut.set_|apply keep_drewN|apply keep_drew|apply keep_alloc|refine keep_far ?_ b9.out _|refine keep_far ?_ d0.out _)|exact HK.out)):p:=h
theorem zq29 (h:p:=by repeat(first|(with_reducible first|exact HB.out|apply below_alloc|apply pw_below_drewN|apply below_drew1|refine below_set ?_ (IsS57.ge a0.out)|refine below_set ?_ b6.out)|exact HB.out)):p:=h
theorem zq30 (h:p:=by exact Kd.M_row (Kd.R_mono (Kd.R_tight rfl (Kd.R_mono (ok':=fun k_=>((fun k_=>some k_≠(a1:Value).ownBlock)) k_∧some k_≠(b0:Value).ownBlock) (Kd.R_apart' (HO_9.out) (Kd.S_typed HO_209000.out) (by decide)) (fun k_ hk=>⟨hk.1,hk.2⟩))) (fun _ h_=>h_))):p:=h
theorem zq31 (h:p:=by refine zqe ?_;refine blk_far ?_ b3.out _;refine zqe ?_;refine blk_far ?_ b3.out _;refine zqe ?_;exact a4.out):p:=h
theorem zq32 (h:p:=by repeat(first|(with_reducible first|exact a3.out|apply IsS57.alloc|apply IsS57.drewN|apply IsS57.drew|apply IsS57.set_1|refine IsS57.far ?_ b1.out _|refine IsS57.far ?_ b8.out _)|exact a3.out)):p:=h
theorem zq33 (h:p:=by repeat(first|(with_reducible first|exact HK.out|apply KeepBut.set_|apply keep_drewN|apply keep_drew|apply keep_alloc|refine keep_far ?_ b7.out _)|exact HK.out)):p:=h
theorem zq34 (h:p:=by repeat(first|(with_reducible first|exact HK.out|apply KeepBut.set_|apply keep_drewN|apply keep_drew|apply keep_alloc|refine keep_far ?_ b9.out _)|exact HK.out)):p:=h
theorem zq35 (h:p:=by have:=b2.out;have:=b3.out;have:=b6.out;have:=b5.out;omega):p:=h
theorem zq36 (h:p:=by repeat(first|(with_reducible first|exact HB.out|apply below_alloc|apply pw_below_drewN|apply below_drew1|refine below_set ?_ b1.out|refine below_set ?_ b5.out)|exact HB.out)):p:=h
theorem zq37 (h:p:=by repeat(first|exact(Kd.Q_reads' a2.out).2.2|(with_reducible refine Kd.C_alloc ?_ _)|(with_reducible refine Kd.C_drewN ?_ _)|(with_reducible refine Kd.C_drew ?_))):p:=h
theorem zq38 (h:p:=by repeat(first|exact(Kd.S_reads' a1.out).2.2|(with_reducible refine Kd.C_alloc ?_ _)|(with_reducible refine Kd.C_drewN ?_ _)|(with_reducible refine Kd.C_drew ?_))):p:=h
theorem zq39 (h:p:=by repeat(first|(with_reducible first|exact a0.out|apply IsS57.alloc|apply IsS57.drewN|apply IsS57.drew|apply IsS57.set_1|refine IsS57.far ?_ a7.out _|refine IsS57.far ?_ b8.out _)|exact a0.out)):p:=h
theorem zq40 (h:p:=by refine zqfS ?_;exact Kd.S_mono HO_209000.out (fun _ hk=>⟨hk.2,hk.1⟩)):p:=h
theorem zq41 (h:p:=by (repeat(first|exact HB7.out|exact HBr.out|apply below_alloc))):p:=h
theorem zq42 (h:p:=by exact(below_size (by repeat(first|(with_reducible first|exact HB.out|apply below_alloc|apply pw_below_drewN|apply below_drew1|refine below_set ?_ b1.out|refine below_set ?_ b4.out|refine below_set ?_ b9.out)|exact HB.out)))):p:=h
theorem zq43 (h:p:=by repeat(first|exact HB.out|apply below_alloc|apply pw_below_drewN|apply below_drew1)):p:=h
theorem zq44 (h:p:=by repeat(first|(with_reducible first|exact a3.out|apply IsS57.alloc|apply IsS57.drewN|apply IsS57.drew|apply IsS57.set_1|refine IsS57.far ?_ b1.out _)|exact a3.out)):p:=h
theorem zq45 (h:p:=by repeat(first|(with_reducible first|exact HB.out|apply below_alloc|apply pw_below_drewN|apply below_drew1|refine below_set ?_ (IsS57.ge a0.out)|refine below_set ?_ b6.out|refine below_set ?_ d1.out)|exact HB.out)):p:=h
theorem zq46 (h:p:=by repeat(first|(with_reducible first|exact HB.out|apply below_alloc|apply pw_below_drewN|apply below_drew1|refine below_set ?_ (IsS57.ge a3.out)|refine below_set ?_ c3.out|refine below_set ?_ d2.out)|exact HB.out)):p:=h
theorem zq47 (h:p:=by exact(by repeat(first|(with_reducible first|exact HB.out|apply below_alloc|apply pw_below_drewN|apply below_drew1|refine below_set ?_ b1.out|refine below_set ?_ b4.out|refine below_set ?_ b9.out)|exact HB.out))):p:=h
theorem zq48 (h:p:=by refine zqfS ?_;exact Kd.S_mono HO_250000.out (fun _ hk=>⟨trivial,hk⟩)):p:=h
theorem zq49 (h:p:=by refine zqfS ?_;exact Kd.S_mono HO_250000.out (fun _ hk=>hk.2)):p:=h
theorem zq50 (h:p:=by repeat(first|(with_reducible first|exact HB.out|apply below_alloc|apply pw_below_drewN|apply below_drew1|refine below_set ?_ b1.out|refine below_set ?_ b2.out|refine below_set ?_ b3.out)|exact HB.out)):p:=h
theorem zq51 (h:p:=by (with_reducible repeat(first|apply Kd.R_alloc|apply Kd.R_drewN|apply Kd.R_drew));exact(Q_HO120 h0_)):p:=h
theorem zq52 (h:p:=by first|omega|exact Nat.le_refl _):p:=h
theorem zq53 (h:p:=by exact(fun k_ hk=>Kd.fresh' (Kd.R_lt (zqfR HO_209001.out)) k_ hk)):p:=h
theorem zq54 (h:p:=by repeat(first|(with_reducible first|exact HK.out|apply KeepBut.set_|apply keep_drewN|apply keep_drew|apply keep_alloc|refine keep_far ?_ b7.out _|refine keep_far ?_ d3.out _)|exact HK.out)):p:=h
theorem zq55 (h:p:=by have:=b1.out;have:=b2.out;have:=e8.out;have:=b3.out;have:=h1.out;omega):p:=h
theorem zq56 (h:p:=by refine zqe ?_;refine blk_far ?_ c0.out _;refine zqe ?_;exact a2.out):p:=h
theorem zq57 (h:p:=by refine zqe ?_;refine blk_far ?_ c1.out _;refine zqe ?_;exact a4.out):p:=h
theorem zq58 (h:p:=by refine zqe ?_;refine blk_far ?_ c2.out _;refine zqe ?_;exact a7.out):p:=h
theorem zq59 (h:p:=by first|exact Kd.R_nil _ _ _ _ _|exact Kd.N_nil _ _ _ _ _|exact Kd.V_nil _ _ _ _ _|exact Kd.Q_nil _ _ _ _ _|exact Kd.S_nil _ _ _ _ _):p:=h
theorem zq60 (h:p:=by first|exact Kd.S_nil _ _ _ _ _|exact Kd.N_nil _ _ _ _ _|exact Kd.V_nil _ _ _ _ _|exact Kd.Q_nil _ _ _ _ _|exact Kd.R_nil _ _ _ _ _):p:=h
theorem zq61 (h:p:=by repeat(first|(with_reducible first|exact HB.out|apply below_alloc|apply pw_below_drewN|apply below_drew1|refine below_set ?_ b1.out|refine below_set ?_ b2.out)|exact HB.out)):p:=h
theorem zq62 (h:p:=by repeat(first|(with_reducible first|exact a2.out|apply IsS57.alloc|apply IsS57.drewN|apply IsS57.drew|apply IsS57.set_1|refine IsS57.far ?_ a7.out _)|exact a2.out)):p:=h
theorem zq63 (h:p:=by repeat(first|exact(Kd.C_below a6.out HB.out)|(with_reducible refine Kd.C_alloc ?_ _)|(with_reducible refine Kd.C_drewN ?_ _)|(with_reducible refine Kd.C_drew ?_))):p:=h
theorem zq64 (h:p:=by repeat(first|(with_reducible first|exact HBW.out|apply below_alloc|apply pw_below_drewN|apply below_drew1)|exact HBW.out)):p:=h
theorem zq65 (h:p:=by repeat(first|(with_reducible first|exact HK.out|apply KeepBut.set_|apply keep_drewN|apply keep_drew|apply keep_alloc|refine keep_far ?_ a9.out _)|exact HK.out)):p:=h
theorem zq66 (h:p:=by refine zqfS ?_;exact Kd.S_mono HO_317000.out (fun _ hk=>⟨hk.2,hk.1⟩)):p:=h
theorem zq67 (h:p:=by repeat(first|(with_reducible first|exact HB.out|apply below_alloc|apply pw_below_drewN|apply below_drew1|refine below_set ?_ (IsS57.ge HI0.out))|exact HB.out)):p:=h
theorem zq68 (h:p:=by (try simp only [List.map_toArray,List.map_cons,List.map_nil]);first|done|rfl):p:=h
theorem zq69 (h:p:=by refine zqfQ ?_;exact(Kd.Q_mono (Kd.Q_far (p:=⟨a5,1,none⟩) (Kd.Q_far (p:=⟨a5,0,none⟩) (Kd.Q_types a2.out a0.out (by decide)) (fun _ hk=>hk.2) (.slice a9 a4.length a8)) (fun _ hk=>hk.2) (.slice a7 a3.length a6)) (fun _ h_=>h_.1))):p:=h
theorem zq70 (h:p:=by refine zqfS ?_;exact(Kd.S_mono (Kd.S_far (p:=⟨a5,1,none⟩) (Kd.S_far (p:=⟨a5,0,none⟩) (Kd.S_types a1.out a0.out (by decide)) (fun _ hk=>hk.2) (.slice a9 a4.length a8)) (fun _ hk=>hk.2) (.slice a7 a3.length a6)) (fun _ h_=>h_.1))):p:=h
theorem zq71 (h:p:=by have:=b0.out;have:=b7.out;have:=b8.out;omega):p:=h
theorem zq72 (h:p:=by repeat(first|(with_reducible first|exact HB.out|apply below_alloc|apply pw_below_drewN|apply below_drew1|refine below_set ?_ a6.out)|exact HB.out)):p:=h
theorem zq73 (h:p:=by repeat(first|exact a6.out|(with_reducible refine Kd.C_alloc ?_ _)|(with_reducible refine Kd.C_drewN ?_ _)|(with_reducible refine Kd.C_drew ?_))):p:=h
theorem zq74 (h:p:=by exact(below_size (by repeat(first|(with_reducible first|exact HB.out|apply below_alloc|apply pw_below_drewN|apply below_drew1)|exact HB.out)))):p:=h
theorem zq75 (h:p:=by have:=b1.out;have:=b2.out;have:=e7.out;have:=b3.out;have:=g5.out;omega):p:=h
theorem zq76 (h:p:=by have:=d1.out;have:=d2.out;have:=d5.out;have:=e0.out;have:=g3.out;omega):p:=h
theorem zq77 (h:p:=by repeat(first|(with_reducible first|exact HI0.out|apply IsS57.alloc|apply IsS57.drewN|apply IsS57.drew|apply IsS57.set_1)|exact HI0.out)):p:=h
theorem zq78 (h:p:=by repeat(first|(with_reducible first|exact a2.out|apply IsS57.alloc|apply IsS57.drewN|apply IsS57.drew|apply IsS57.set_1)|exact a2.out)):p:=h
theorem zq79 (h:p:=by repeat(first|(with_reducible first|exact a3.out|apply IsS57.alloc|apply IsS57.drewN|apply IsS57.drew|apply IsS57.set_1)|exact a3.out)):p:=h
theorem zq80 (h:p:=by exact(by repeat(first|(with_reducible first|exact HB.out|apply below_alloc|apply pw_below_drewN|apply below_drew1)|exact HB.out))):p:=h
theorem zq81 (h:p:=by first|(go_simp;done)|(simp;done)|assumption|(go_simp;assumption)):p:=h
theorem zq82 (h:p:=by refine zqe ?_;refine blk_put (cs:= #[.slice none 0 0,.slice none 0 0]) ?_ 1 _ rfl;refine zqe ?_;refine blk_put (cs:= #[.slice none 0 0,.slice none 0 0]) ?_ 0 _ rfl;refine zqe ?_;exact a0.out):p:=h
theorem zq83 (h:p:=by refine zqe ?_;refine blk_put (cs:= #[.slice none 0 0,.slice none 0 0]) ?_ 1 _ rfl;refine zqe ?_;refine blk_put (cs:= #[.slice none 0 0,.slice none 0 0]) ?_ 0 _ rfl;refine zqe ?_;exact a1.out):p:=h
theorem zq84 (h:p:=by repeat(first|(with_reducible first|exact HB.out|apply below_alloc|apply pw_below_drewN|apply below_drew1|refine below_set ?_ (IsS57.ge a0.out)|refine below_set ?_ c2.out)|exact HB.out)):p:=h
theorem zq85 (h:p:=by repeat(first|(with_reducible first|exact HB.out|apply below_alloc|apply pw_below_drewN|apply below_drew1|refine below_set ?_ (IsS57.ge a3.out)|refine below_set ?_ c3.out)|exact HB.out)):p:=h
theorem zq86 (h:p:=by repeat(first|exact Kd.C_below HR0.out HB.out|(refine Kd.C_drewN ?_ _)|(refine Kd.C_drew ?_))):p:=h
theorem zq87 (h:p:=by refine zqfR ?_;exact Kd.R_mono HO_209001.out (fun _ hk=>hk.2)):p:=h
theorem zq88 (h:p:=by exact(by refine zqfS ?_;exact Kd.S_mono HO_209000.out (fun k_ hk=>⟨hk.2,fun e_=>hk.1 e_⟩))):p:=h
theorem zq89 (h:p:=by refine zqfR ?_;exact Kd.R_mono HO_209001.out (fun _ hk=>⟨trivial,hk⟩)):p:=h
theorem zq90 (h:p:=by have:=i8.out;have:=o3.out;first|omega|exact Nat.le_refl _):p:=h
theorem zq91 (h:p:=by refine zqe ?_;refine blk_put (cs:= #[b0,a1]) ?_ 0 _ rfl;refine zqe ?_;exact a0.out):p:=h
theorem zq92 (h:p:=by repeat(first|exact(Kd.C_below h4.out HB.out)|(with_reducible refine Kd.C_alloc ?_ _)|(with_reducible refine Kd.C_drewN ?_ _)|(with_reducible refine Kd.C_drew ?_))):p:=h
theorem zq93 (h:p:=by repeat(first|exact(Kd.S_reads' HO_3.out).2.2|(with_reducible refine Kd.C_alloc ?_ _)|(with_reducible refine Kd.C_drewN ?_ _)|(with_reducible refine Kd.C_drew ?_))):p:=h
theorem zq95 (h:p:=by repeat(first|(with_reducible first|exact HB.out|apply below_alloc|apply pw_below_drewN|apply below_drew1|refine below_set ?_ (IsS57.ge HI147.out))|exact HB.out)):p:=h
theorem zq96 (h:p:=by repeat(first|exact(Kd.N_reads' a0.out).2.2|(with_reducible refine Kd.C_alloc ?_ _)|(with_reducible refine Kd.C_drewN ?_ _)|(with_reducible refine Kd.C_drew ?_))):p:=h
theorem zq97 (h:p:=by exact Kd.C_below HR0.out HB.out):p:=h
theorem zq98 (h:p:=by (try simp only [List.map_toArray,List.map_cons,List.map_nil]);first|done|(simp only [c7];rfl)|rfl|(simp only [List.length_drop,List.length_take];rfl)):p:=h
theorem zq99 (h:p:=by repeat(first|exact b7.out|(with_reducible refine Kd.C_alloc ?_ _)|(with_reducible refine Kd.C_drewN ?_ _)|(with_reducible refine Kd.C_drew ?_))):p:=h
theorem zq100 (h:p:=by (repeat(first|exact HOr2.out|apply Kd.R_alloc))):p:=h
theorem zq101 (h:p:=by repeat(first|(with_reducible first|exact(Q_HI0 h0_)|apply IsS57.alloc|apply IsS57.drewN|apply IsS57.drew|apply IsS57.set_1)|exact(Q_HI0 h0_))):p:=h
theorem zq102 (h:p:=by (with_reducible repeat(first|apply Kd.N_alloc|apply Kd.N_drewN|apply Kd.N_drew));exact a0.out):p:=h
theorem zq103 (h:p:=by (repeat(first|exact HA7.out|apply Kd.R_alloc))):p:=h
theorem zq104 (h:p:=by have:=d1.out;have:=d2.out;have:=d5.out;have:=e0.out;first|omega|exact Nat.le_refl _):p:=h
theorem zq105 (h:p:=by exact Kd.C_below HR1.out HB.out):p:=h
theorem zq106 (h:p:=by have:=d1.out;have:=d2.out;omega):p:=h
theorem zq107 (h:p:=by refine zqfQ ?_;exact Kd.Q_mono HO_317001.out (fun _ hk=>hk.2)):p:=h
theorem zq108 (h:p:=by exact(fun k_ hk=>⟨Kd.fresh' (Kd.R_lt (zqfR HO_5.out)) k_ hk,Kd.fresh' (Kd.R_lt (zqfR HO_296001.out)) k_ hk⟩)):p:=h
theorem zq109 (h:p:=by refine zqe ?_;refine blk_far ?_ b7.out _;refine zqe ?_;refine blk_far ?_ b7.out _;refine zqe ?_;exact a2.out):p:=h
theorem zq110 (h:p:=by refine zqe ?_;refine blk_far ?_ c1.out _;refine zqe ?_;refine blk_far ?_ c1.out _;refine zqe ?_;exact a4.out):p:=h
theorem zq111 (h:p:=by have:=b2.out;have:=b3.out;have:=b6.out;first|omega|exact Nat.le_refl _):p:=h
theorem zq112 (h:p:=by refine zqfQ ?_;exact Kd.Q_mono HO_317001.out (fun _ hk=>⟨trivial,hk⟩)):p:=h
theorem zq113 (h:p:=by (with_reducible repeat(first|apply Kd.R_alloc|apply Kd.R_drewN|apply Kd.R_drew));exact(Q_HO138 h0_)):p:=h
theorem zq114 (h:p:=by have:=HLT.out;have:=HL.out;omega):p:=h
theorem zq115 (h:p:=by refine zqfR ?_;exact Kd.R_mono HO_5.out (fun _ hk=>⟨hk.2,hk.1⟩)):p:=h
theorem zq116 (h:p:=by (with_reducible repeat(first|apply Kd.R_alloc|apply Kd.R_drewN|apply Kd.R_drew));exact b2.out):p:=h
theorem zq117 (h:p:=by have:=a5.out;have:=a6.out;omega):p:=h
theorem zq118 (h:p:=by have:=b0.out;have:=b1.out;omega):p:=h
theorem zq119 (h:p:=by repeat(first|exact Below.refl _ _|apply below_alloc|apply pw_below_drewN|apply below_drew1)):p:=h
theorem zq120 (h:p:=by first | rfl | (simp; done) | (simp [*]; done)):p:=h
theorem zq121 (h:p:=by have:=t4.out;have:=t5.out;have:=HK3.out;omega):p:=h
theorem zq122 (h:p:=by exact(Reps.one (show Kd.M (Kd.int .i64) _ _ _ 1 [.int .i64 1] from rfl) (Reps.none _ _))):p:=h
theorem zq123 (h:p:=by first|go_num|(rw [wrap_small (by omega) (by have:=HLTb.out;have:=HSM.out;omega)];go_num)):p:=h
theorem zq124 (h:p:=by have:=a4.out;first|omega|exact Nat.le_refl _):p:=h
theorem zq125 (h:p:=by have:=e4.out;have:=j1.out;have:=j2.out;omega):p:=h
theorem zq126 (h:p:=by exact(Kd.Q_reads' a2.out).2.1):p:=h
theorem zq127 (h:p:=by exact(Kd.S_reads' a1.out).2.1):p:=h
theorem zq128 (h:p:=by have:=b2.out;have:=b3.out;first|omega|exact Nat.le_refl _):p:=h
theorem zq129 (h:p:=by refine zqfS ?_;exact Kd.S_mono HO_3.out (fun _ hk=>hk.2)):p:=h
theorem zq130 (h:p:=by have:=b1.out;have:=b2.out;have:=e7.out;have:=b3.out;first|omega|exact Nat.le_refl _):p:=h
theorem zq131 (h:p:=by refine zqfS ?_;exact Kd.S_mono HO_296000.out (fun _ hk=>⟨hk.1.1,⟨hk.2,hk.1.2⟩⟩)):p:=h
theorem zq132 (h:p:=by first|exact HRND.out|exact HRNE.out|rfl):p:=h
theorem zq133 (h:p:=by (repeat(first|exact HG7.out|refine blk_alloc ?_ _))):p:=h
theorem zq134 (h:p:=by (repeat(first|exact HGr.out|refine blk_alloc ?_ _))):p:=h
theorem zq135 (h:p:=by (repeat(first|exact HX7.out|refine blk_alloc ?_ _))):p:=h
theorem zq136 (h:p:=by (repeat(first|exact HXr.out|refine blk_alloc ?_ _))):p:=h
theorem zq137 (h:p:=by refine zqfS ?_;exact Kd.S_mono HO_3.out (fun k_ hk=>⟨trivial,fun e_=>hk e_⟩)):p:=h
theorem zq138 (h:p:=by repeat(first|exact HUC.out|(refine Kd.C_drewN ?_ _)|(refine Kd.C_drew ?_))):p:=h
theorem zq139 (h:p:=by repeat(first|exact Below.refl _ _|apply pw_below_drewN|apply below_drew1)):p:=h
theorem zq140 (h:p:=by (repeat(first|exact HrO7.out|apply Kd.R_alloc))):p:=h
theorem zq141 (h:p:=by have:=d1.out;have:=d2.out;have:=d5.out;first|omega|exact Nat.le_refl _):p:=h
theorem zq142 (h:p:=by (repeat(first|exact HAr.out|apply Kd.R_alloc))):p:=h
theorem zq143 (h:p:=by (repeat(first|exact HO7.out|apply Kd.R_alloc))):p:=h
theorem zq144 (h:p:=by (repeat(first|exact HV7.out|apply Kd.R_alloc))):p:=h
theorem zq145 (h:p:=by (repeat(first|exact HVr.out|apply Kd.R_alloc))):p:=h
theorem zq146 (h:p:=by (repeat(first|exact HrA.out|apply Kd.R_alloc))):p:=h
theorem zq147 (h:p:=by (repeat(first|exact HrO.out|apply Kd.R_alloc))):p:=h
theorem zq148 (h:p:=by refine zqe ?_;refine blk_far ?_ b7.out _;refine zqe ?_;exact a2.out):p:=h
theorem zq149 (h:p:=by refine zqe ?_;refine blk_far ?_ b8.out _;refine zqe ?_;exact a4.out):p:=h
theorem zq150 (h:p:=by have:=HXI.out;have:=HLT.out;omega):p:=h
theorem zq151 (h:p:=by have:=i8.out;first|omega|exact Nat.le_refl _):p:=h
theorem zq152 (h:p:=by have:=a4.out;have:=b9.out;omega):p:=h
theorem zq153 (h:p:=by have:=a9.out;have:=b0.out;omega):p:=h
theorem zq154 (h:p:=by have:=e8.out;have:=e9.out;omega):p:=h
end
end Go.Proofs.YtbomiegcbimgoaaGreat
end
section
namespace Go.Proofs.YtbomiegcbimgoaaGreat.Print
open Go.RowKit Go.Proofs.YtbomiegcbimgoaaGreatW.PrintWords Go.Proofs.YtbomiegcbimgoaaGreatW.PrintLast Go.Proofs.YtbomiegcbimgoaaGreatW.PrintMore
section
attribute [local go_sem] max2_int min2_int max_two min_two max_three min_three max_four min_four
def errW : Option Int → Value
 | none => .nilIface
 | some c => .iface 0 (.int .i64 c)
theorem errW_none : errW none = .nilIface := rfl
theorem errW_some (c : Int) : errW (some c) = .iface 0 (.int .i64 c) := rfl
theorem info3 : (Tryz.prog.info? 3).map (fun i => (i.zero, i.size, i.bytes)) = some (some (.int .i64 0), 1, 8) := by kernel_rfl
theorem info5 : (Tryz.prog.info? 5).map (fun i => (i.zero, i.size, i.bytes)) = some (some (.int .u8 0), 1, 1) := by kernel_rfl
theorem info28 : (Tryz.prog.info? 28).map (fun i => (i.zero, i.size, i.bytes)) = some (some (.slice none 0 0), 1, 24) := by kernel_rfl
def rd_L3 (xs : List (List Int)) (i : Int) : (List Int) := xs.getD i.toNat ([] : List Int)
theorem at_L3 {w : World} {A : Option Addr} {n : Nat} {xs : List (List Int)} (h : Kd.C (Kd.slice 3 (Kd.int .i64)) w A n xs) (i : Int) (h0 : 0 ≤ i) (h1 : i < n) : ∃ ad A0 c0, A = some ad ∧ w.cell? (ad.add i.toNat) = some (.slice A0 (rd_L3 xs i).length c0) ∧ (rd_L3 xs i).length ≤ c0 ∧ (Kd.int .i64).C w A0 (rd_L3 xs i).length (rd_L3 xs i) := by
 obtain ⟨ad, c, e, _, hK, hc0⟩ := Kd.C_get h ([] : List Int) i h0 h1
 have hc : ∀ j u, c[j]? = some u → w.cell? (ad.add (i.toNat * 1 + j)) = some u := hc0
 obtain ⟨A0, c0, rfl, l0, g0⟩ := hK
 exact ⟨ad, A0, c0, e, by have hq := hc 0 _ rfl; rwa [Nat.mul_one, Nat.add_zero] at hq, l0, g0⟩
end
section
attribute [local go_sem] max2_int min2_int max_two min_two max_three min_three max_four min_four
mutual
def spec_l10End.j0 : Nat → ByteArray → Int → Int → Bool → Option (Int)
 | 0, _, _, _, _ => none
 | k + 1, x0, x1, x13, x14 => if x14 = true then (some (wrap64 (x1 + 1))) else (if x13 = 33 then ((spec_l10End.f k x0 (wrap64 (x1 + 1))).bind fun t151 => (some t151)) else (if x13 = 40 then ((spec_l10End.f k x0 (wrap64 (x1 + 1))).bind fun t152 => (if t152 < 0 then (spec_l10End.j1 k x0 t152 true) else (if t152 ≥ (x0.size : Int) then (spec_l10End.j1 k x0 t152 true) else (if 0 ≤ t152 then (if t152 < (x0.size : Int) then (if (bt x0 t152) = 38 then (spec_l10End.j1 k x0 t152 false) else (spec_l10End.j1 k x0 t152 ((bt x0 t152) != 124))) else (none)) else (none))))) else (some (-1))))
def spec_l10End.j1 : Nat → ByteArray → Int → Bool → Option (Int)
 | 0, _, _, _ => none
 | k + 1, x0, x5, x53 => if x53 = true then (some (-1)) else ((spec_l10End.f k x0 (wrap64 (x5 + 1))).bind fun t153 => (if t153 < 0 then (some (-1)) else (if t153 ≥ (x0.size : Int) then (some (-1)) else (if 0 ≤ t153 then (if t153 < (x0.size : Int) then (if (bt x0 t153) = 41 then (some (wrap64 (t153 + 1))) else (some (-1))) else (none)) else (none)))))
def spec_l10End.f : Nat → ByteArray → Int → Option (Int)
 | 0, _, _ => none
 | k + 1, a0, a1 => if a1 ≥ (a0.size : Int) then (some (-1)) else (if 0 ≤ a1 then (if a1 < (a0.size : Int) then (if (bt a0 a1) = 97 then (spec_l10End.j0 k a0 a1 (bt a0 a1) ((bt a0 a1) == 97)) else (if (bt a0 a1) = 98 then (spec_l10End.j0 k a0 a1 (bt a0 a1) ((bt a0 a1) == 98)) else (if (bt a0 a1) = 99 then (spec_l10End.j0 k a0 a1 (bt a0 a1) ((bt a0 a1) == 99)) else (if (bt a0 a1) = 48 then (spec_l10End.j0 k a0 a1 (bt a0 a1) ((bt a0 a1) == 48)) else (spec_l10End.j0 k a0 a1 (bt a0 a1) ((bt a0 a1) == 49)))))) else (none)) else (none))
end
set_option maxHeartbeats 8000000 in
set_option maxRecDepth 100000 in
theorem spec_l10End.calls (k : Nat) : ∀ (a0 : ByteArray) (a1 : Int) (r : Int) (w : World) (h : spec_l10End.f k a0 a1 = some r),
  Calls Tryz.prog 28 #[.string a0, .int .i64 a1] w fun e w' => e = .returned (.int .i64 r) ∧ Drawn0 w w' := by
 induction k using Nat.strongRecOn with
 |_ k ih=>
 intro a0 a1 r w h
 cases k with
 |zero=>exact absurd h (by simp [spec_l10End.f])
 |succ k=>
 simp only [spec_l10End.f] at h;have H:(if a1≥(a0.size:Int) then(some (-1)) else(if 0≤a1 then(if a1<(a0.size:Int) then(if(bt a0 a1)=97 then(spec_l10End.j0 k a0 a1 (bt a0 a1) ((bt a0 a1)==97)) else(if(bt a0 a1)=98 then(spec_l10End.j0 k a0 a1 (bt a0 a1) ((bt a0 a1)==98)) else(if(bt a0 a1)=99 then(spec_l10End.j0 k a0 a1 (bt a0 a1) ((bt a0 a1)==99)) else(if(bt a0 a1)=48 then(spec_l10End.j0 k a0 a1 (bt a0 a1) ((bt a0 a1)==48)) else(spec_l10End.j0 k a0 a1 (bt a0 a1) ((bt a0 a1)==49)))))) else(none)) else(none)))=some r:=h;clear h
 by_cases c3:a1≥(a0.size:Int)
 ·rw [if_pos c3] at H;have g0:decide ((a0.size:Int)≤a1)=true:=decide_eq_true c3;clear c3;obtain rfl:=Option.some.inj H
  go_enter Tryz.func28,Tryz.ntmps28
  go_wp2
  go_ret
  exact⟨zq8,zq9⟩
 ·rw [if_neg c3] at H;have g0:decide ((a0.size:Int)≤a1)=false:=decide_eq_false c3;clear c3
  by_cases c4:0≤a1
  ·rw [if_pos c4] at H;have h5:decide (0≤a1)=true:=decide_eq_true c4;clear c4
   by_cases c5:a1<(a0.size:Int)
   ·rw [if_pos c5] at H;have h6:decide (a1<(a0.size:Int))=true:=decide_eq_true c5;clear c5;have e1:=zqm H;clear H;have p6:0≤(a1:Int):=zqo;have q6:a1<(a0.size:Int):=zqo;have h8:=bt_at a0 a1;replace p6:=eq_true p6;replace q6:=eq_true q6
    go_enter Tryz.func28,Tryz.ntmps28
    go_upto_if 14 with (fail)
    go_cut [14] (fun g9 wc=> ∃(kq:Nat) (a7:Bool),g9= .bool a7∧Aside0 (spec_l10End.j0 kq a0 a1 (bt a0 a1) a7=some r)∧Aside0 (kq≤k)∧Drawn0 w wc)
    case first=>
     have H:=e1.out;clear e1
     by_cases c8:(bt a0 a1)=97
     ·rw [if_pos c8] at H;have b4:((bt a0 a1)==97)=true:=beq_iff_eq.mpr c8;have g1:((bt a0 a1) !=97)=false:=bne_eq_false_iff_eq.mpr c8;clear c8;(first|rw [b4]|(simp only [i64_w,i32_w];rw [b4])|skip);have H':=zqm H;clear H
      go_wp2
      go_meet
      case rel=>exact⟨_,(((bt a0 a1)==97)),zq8,H',⟨zq52⟩,zq9⟩
     ·rw [if_neg c8] at H;have b4:((bt a0 a1)==97)=false:=beq_eq_false_iff_ne.mpr c8;have g1:((bt a0 a1) !=97)=true:=bne_iff_ne.mpr c8;(first|rw [b4]|(simp only [i64_w,i32_w];rw [b4])|skip)
      by_cases c9:(bt a0 a1)=98
      ·rw [if_pos c9] at H;have g2:((bt a0 a1)==98)=true:=beq_iff_eq.mpr c9;have g3:((bt a0 a1) !=98)=false:=bne_eq_false_iff_eq.mpr c9;clear c9;have H':=zqm H;clear H
       go_wp2
       go_meet
       case rel=>exact⟨_,(((bt a0 a1)==98)),zq8,H',⟨zq52⟩,zq9⟩
      ·rw [if_neg c9] at H;have g2:((bt a0 a1)==98)=false:=beq_eq_false_iff_ne.mpr c9;have g3:((bt a0 a1) !=98)=true:=bne_iff_ne.mpr c9
       by_cases a8:(bt a0 a1)=99
       ·rw [if_pos a8] at H;have e3:((bt a0 a1)==99)=true:=beq_iff_eq.mpr a8;have e4:((bt a0 a1) !=99)=false:=bne_eq_false_iff_eq.mpr a8;clear a8;have H':=zqm H;clear H
        go_wp2
        go_meet
        case rel=>exact⟨_,(((bt a0 a1)==99)),zq8,H',⟨zq52⟩,zq9⟩
       ·rw [if_neg a8] at H;have e3:((bt a0 a1)==99)=false:=beq_eq_false_iff_ne.mpr a8;have e4:((bt a0 a1) !=99)=true:=bne_iff_ne.mpr a8
        by_cases a9:(bt a0 a1)=48
        ·rw [if_pos a9] at H;have e5:((bt a0 a1)==48)=true:=beq_iff_eq.mpr a9;have e6:((bt a0 a1) !=48)=false:=bne_eq_false_iff_eq.mpr a9;clear a9;have H':=zqm H;clear H
         go_wp2
         go_meet
         case rel=>exact⟨_,(((bt a0 a1)==48)),zq8,H',⟨zq52⟩,zq9⟩
        ·rw [if_neg a9] at H;have e5:((bt a0 a1)==48)=false:=beq_eq_false_iff_ne.mpr a9;have e6:((bt a0 a1) !=48)=true:=bne_iff_ne.mpr a9;have H':=zqm H;clear H
         go_wp2
         go_meet
         case rel=>exact⟨_,(((bt a0 a1)==49)),zq8,H',⟨zq52⟩,zq9⟩
    case rest=>
     clear e1;obtain⟨kq,a7,rfl,HA,a4,⟨mc6,rfl⟩⟩:=hcut
     cases kq with
     |zero=>exact absurd HA.out (by simp [spec_l10End.j0])
     |succ e2=>
      have H:=HA.out;clear HA;simp only [spec_l10End.j0] at H
      by_cases d2:a7=true
      ·subst d2;rw [if_pos rfl] at H;obtain rfl:=Option.some.inj H
       go_wp2
       go_ret
       exact⟨zq8,zq9⟩
      ·replace d2:=Bool.eq_false_iff.mpr d2;subst d2;rw [if_neg (show¬(false=true) by decide)] at H
       by_cases b0:(bt a0 a1)=33
       ·rw [if_pos b0] at H;have e7:((bt a0 a1)==33)=true:=beq_iff_eq.mpr b0;have e8:((bt a0 a1) !=33)=false:=bne_eq_false_iff_eq.mpr b0;clear b0;replace H:=Option.bind_eq_some_iff.mp H;obtain⟨g6,d8,H⟩:=H;(try dsimp only at H);have g7:=zqm d8;clear d8;obtain rfl:=Option.some.inj H
        go_wp2_with (first|((with_reducible refine gate_callee (f:=28) rfl ?_);refine goesL_ (some 27) rfl rfl Tryz.func28 zqk rfl #[.string a0,.int .i64 (wrap64 (a1+1))] rfl zq3 ?_;(with_reducible refine(ih e2 (by have:=a4.out;omega) a0 (wrap64 (a1+1)) g6 _ g7.out).mono ?_);rintro e w' ⟨rfl,⟨nd,rfl⟩⟩;refine⟨_,rfl,?_⟩))
        go_ret
        exact⟨zq8,zq9⟩
       ·rw [if_neg b0] at H;have e7:((bt a0 a1)==33)=false:=beq_eq_false_iff_ne.mpr b0;have e8:((bt a0 a1) !=33)=true:=bne_iff_ne.mpr b0
        by_cases b1:(bt a0 a1)=40
        ·rw [if_pos b1] at H;have e9:((bt a0 a1)==40)=true:=beq_iff_eq.mpr b1;have f0:((bt a0 a1) !=40)=false:=bne_eq_false_iff_eq.mpr b1;clear b1;replace H:=Option.bind_eq_some_iff.mp H;obtain⟨a2,d9,H⟩:=H;(try dsimp only at H);have g8:=zqm d9;clear d9;have d0:=zqm H;clear H
         go_upto_region 14 with (first|((with_reducible refine gate_callee (f:=28) rfl ?_);refine goesL_ (some 33) rfl rfl Tryz.func28 zqk rfl #[.string a0,.int .i64 (wrap64 (a1+1))] rfl zq3 ?_;(with_reducible refine(ih e2 (by have:=a4.out;omega) a0 (wrap64 (a1+1)) a2 _ g8.out).mono ?_);rintro e w' ⟨rfl,⟨nd,rfl⟩⟩;refine⟨_,rfl,?_⟩))
         (try simp only [Act.put,List.setIfInBounds_toArray,List.set_cons_zero,List.set_cons_succ])
         go_cut [53] (fun h0 wc=> ∃(kq:Nat) (a6:Bool),h0= .bool a6∧Aside0 (spec_l10End.j1 kq a0 a2 a6=some r)∧Aside0 (kq≤e2)∧Drawn0 w wc)
         case first=>
          have H:=d0.out;clear d0
          by_cases b5:a2<0
          ·rw [if_pos b5] at H;have a5:decide (a2<0)=true:=decide_eq_true b5;clear b5;(first|rw [a5]|(simp only [i64_w,i32_w];rw [a5])|skip);have H':=zqm H;clear H
           go_wp2
           go_meet
           case rel=>exact⟨_,(true),zq8,H',⟨zq124⟩,zq9⟩
          ·rw [if_neg b5] at H;have a5:decide (a2<0)=false:=decide_eq_false b5;clear b5;(first|rw [a5]|(simp only [i64_w,i32_w];rw [a5])|skip)
           by_cases b6:a2≥(a0.size:Int)
           ·rw [if_pos b6] at H;have f1:decide ((a0.size:Int)≤a2)=true:=decide_eq_true b6;clear b6;have H':=zqm H;clear H
            go_wp2
            go_meet
            case rel=>exact⟨_,(true),zq8,H',⟨zq124⟩,zq9⟩
           ·rw [if_neg b6] at H;have f1:decide ((a0.size:Int)≤a2)=false:=decide_eq_false b6;clear b6
            by_cases d3:0≤a2
            ·rw [if_pos d3] at H;have h1:decide (0≤a2)=true:=decide_eq_true d3;clear d3
             by_cases d4:a2<(a0.size:Int)
             ·rw [if_pos d4] at H;have h2:decide (a2<(a0.size:Int))=true:=decide_eq_true d4;clear d4
              by_cases b2:(bt a0 a2)=38
              ·rw [if_pos b2] at H;have f2:((bt a0 a2)==38)=true:=beq_iff_eq.mpr b2;have f3:((bt a0 a2) !=38)=false:=bne_eq_false_iff_eq.mpr b2;clear b2;have H':=zqm H;clear H;have c1:0≤(a2:Int):=zqo;have c6:a2<(a0.size:Int):=zqo;have g4:=bt_at a0 a2;replace c1:=eq_true c1;replace c6:=eq_true c6
               go_wp2
               go_meet
               case rel=>exact⟨_,(false),zq8,H',⟨zq124⟩,zq9⟩
              ·rw [if_neg b2] at H;have f2:((bt a0 a2)==38)=false:=beq_eq_false_iff_ne.mpr b2;have f3:((bt a0 a2) !=38)=true:=bne_iff_ne.mpr b2;have H':=zqm H;clear H;have c1:0≤(a2:Int):=zqo;have c6:a2<(a0.size:Int):=zqo;have g4:=bt_at a0 a2;replace c1:=eq_true c1;replace c6:=eq_true c6;have f8:0≤(a2:Int):=zqo;have f9:a2<(a0.size:Int):=zqo;have h7:=bt_at a0 a2;replace f8:=eq_true f8;replace f9:=eq_true f9
               go_wp2
               go_meet
               case rel=>exact⟨_,(((bt a0 a2) !=124)),zq8,H',⟨zq124⟩,zq9⟩
             ·rw [if_neg d4] at H;exact absurd H (by simp)
            ·rw [if_neg d3] at H;exact absurd H (by simp)
         case rest=>
          clear d0;obtain⟨kq,a6,rfl,HA,b9,⟨mc16,rfl⟩⟩:=hcut
          cases kq with
          |zero=>exact absurd HA.out (by simp [spec_l10End.j1])
          |succ c0=>
           have H:=HA.out;clear HA;simp only [spec_l10End.j1] at H
           by_cases d5:a6=true
           ·subst d5;rw [if_pos rfl] at H;obtain rfl:=Option.some.inj H
            go_wp2
            go_ret
            exact⟨zq8,zq9⟩
           ·replace d5:=Bool.eq_false_iff.mpr d5;subst d5;rw [if_neg (show¬(false=true) by decide)] at H;replace H:=Option.bind_eq_some_iff.mp H;obtain⟨a3,e0,H⟩:=H;(try dsimp only at H);have d1:=zqm e0;clear e0
            by_cases b7:a3<0
            ·rw [if_pos b7] at H;have f4:decide (a3<0)=true:=decide_eq_true b7;clear b7;obtain rfl:=Option.some.inj H
             go_wp2_with (first|((with_reducible refine gate_callee (f:=28) rfl ?_);refine goesL_ (some 57) rfl rfl Tryz.func28 zqk rfl #[.string a0,.int .i64 (wrap64 (a2+1))] rfl zq3 ?_;(with_reducible refine(ih c0 zq152 a0 (wrap64 (a2+1)) a3 _ d1.out).mono ?_);rintro e w' ⟨rfl,⟨nd,rfl⟩⟩;refine⟨_,rfl,?_⟩))
             go_ret
             exact⟨zq8,zq9⟩
            ·rw [if_neg b7] at H;have f4:decide (a3<0)=false:=decide_eq_false b7;clear b7
             by_cases b8:a3≥(a0.size:Int)
             ·rw [if_pos b8] at H;have f5:decide ((a0.size:Int)≤a3)=true:=decide_eq_true b8;clear b8;obtain rfl:=Option.some.inj H
              go_wp2_with (first|((with_reducible refine gate_callee (f:=28) rfl ?_);refine goesL_ (some 57) rfl rfl Tryz.func28 zqk rfl #[.string a0,.int .i64 (wrap64 (a2+1))] rfl zq3 ?_;(with_reducible refine(ih c0 zq152 a0 (wrap64 (a2+1)) a3 _ d1.out).mono ?_);rintro e w' ⟨rfl,⟨nd,rfl⟩⟩;refine⟨_,rfl,?_⟩))
              go_ret
              exact⟨zq8,zq9⟩
             ·rw [if_neg b8] at H;have f5:decide ((a0.size:Int)≤a3)=false:=decide_eq_false b8;clear b8
              by_cases d6:0≤a3
              ·rw [if_pos d6] at H;have h3:decide (0≤a3)=true:=decide_eq_true d6;clear d6
               by_cases d7:a3<(a0.size:Int)
               ·rw [if_pos d7] at H;have h4:decide (a3<(a0.size:Int))=true:=decide_eq_true d7;clear d7
                by_cases b3:(bt a0 a3)=41
                ·rw [if_pos b3] at H;have f6:((bt a0 a3)==41)=true:=beq_iff_eq.mpr b3;have f7:((bt a0 a3) !=41)=false:=bne_eq_false_iff_eq.mpr b3;clear b3;obtain rfl:=Option.some.inj H
                 go_wp2_with (first|((with_reducible refine gate_callee (f:=28) rfl ?_);refine goesL_ (some 57) rfl rfl Tryz.func28 zqk rfl #[.string a0,.int .i64 (wrap64 (a2+1))] rfl zq3 ?_;(with_reducible refine(ih c0 zq152 a0 (wrap64 (a2+1)) a3 _ d1.out).mono ?_);rintro e w' ⟨rfl,⟨nd,rfl⟩⟩;refine⟨_,rfl,?_⟩;have c2:0≤(a3:Int):=zqo;have c7:a3<(a0.size:Int):=zqo;have g5:=bt_at a0 a3;replace c2:=eq_true c2;replace c7:=eq_true c7))
                 go_ret
                 exact⟨zq8,zq9⟩
                ·rw [if_neg b3] at H;have f6:((bt a0 a3)==41)=false:=beq_eq_false_iff_ne.mpr b3;have f7:((bt a0 a3) !=41)=true:=bne_iff_ne.mpr b3;obtain rfl:=Option.some.inj H
                 go_wp2_with (first|((with_reducible refine gate_callee (f:=28) rfl ?_);refine goesL_ (some 57) rfl rfl Tryz.func28 zqk rfl #[.string a0,.int .i64 (wrap64 (a2+1))] rfl zq3 ?_;(with_reducible refine(ih c0 zq152 a0 (wrap64 (a2+1)) a3 _ d1.out).mono ?_);rintro e w' ⟨rfl,⟨nd,rfl⟩⟩;refine⟨_,rfl,?_⟩;have c2:0≤(a3:Int):=zqo;have c7:a3<(a0.size:Int):=zqo;have g5:=bt_at a0 a3;replace c2:=eq_true c2;replace c7:=eq_true c7))
                 go_ret
                 exact⟨zq8,zq9⟩
               ·rw [if_neg d7] at H;exact absurd H (by simp)
              ·rw [if_neg d6] at H;exact absurd H (by simp)
        ·rw [if_neg b1] at H;have e9:((bt a0 a1)==40)=false:=beq_eq_false_iff_ne.mpr b1;have f0:((bt a0 a1) !=40)=true:=bne_iff_ne.mpr b1;obtain rfl:=Option.some.inj H
         go_wp2
         go_ret
         exact⟨zq8,zq9⟩
   ·rw [if_neg c5] at H;exact absurd H (by simp)
  ·rw [if_neg c4] at H;exact absurd H (by simp)
end
section
attribute [local go_sem] max2_int min2_int max_two min_two max_three min_three max_four min_four
def spec_FormulaOk.f (k : Nat) (a0 : ByteArray) : Option (Bool) := if (a0.size : Int) ≤ 60 then (if (a0.size : Int) > 0 then ((spec_l10End.f k a0 0).bind fun t154 => (some (t154 == (a0.size : Int)))) else (some false)) else (some false)
set_option maxHeartbeats 8000000 in
set_option maxRecDepth 100000 in
theorem spec_FormulaOk.calls (k : Nat) (a0 : ByteArray) (r : Bool) (w : World) (h : spec_FormulaOk.f k a0 = some r) :
  Calls Tryz.prog 16 #[.string a0] w fun e w' => e = .returned (.bool r) ∧ Drawn0 w w' := by
 have H:(if(a0.size:Int)≤60 then(if(a0.size:Int)>0 then((spec_l10End.f k a0 0).bind fun t154=>(some (t154==(a0.size:Int)))) else(some false)) else(some false))=some r:=h;clear h
 by_cases c2:(a0.size:Int)≤60
 ·rw [if_pos c2] at H;have c2b0:decide ((a0.size:Int)≤60)=true:=decide_eq_true c2;have c2b1:decide (a0.size≤60)=true:=decide_eq_true (by omega);clear c2
  by_cases c3:(a0.size:Int)>0
  ·rw [if_pos c3] at H;have c3b0:decide (0<(a0.size:Int))=true:=decide_eq_true c3;have c3b1:decide (0<a0.size)=true:=decide_eq_true (by omega);clear c3;replace H:=Option.bind_eq_some_iff.mp H;obtain⟨t154,A40,H⟩:=H;(try dsimp only at H);have A4:=zqm A40;clear A40;obtain rfl:=Option.some.inj H
   go_enter Tryz.func16,Tryz.ntmps16
   go_wp2_with (first|(go_at_call 28;(with_reducible refine(spec_l10End.calls k a0 0 t154 _ A4.out).mono ?_);rintro e w' ⟨rfl,⟨nd,rfl⟩⟩))
   go_ret
   exact⟨zq8,zq9⟩
  ·rw [if_neg c3] at H;have c3b0:decide (0<(a0.size:Int))=false:=decide_eq_false c3;have c3b1:decide (0<a0.size)=false:=decide_eq_false (by omega);clear c3;obtain rfl:=Option.some.inj H
   go_enter Tryz.func16,Tryz.ntmps16
   go_wp2
   go_ret
   exact⟨zq8,zq9⟩
 ·rw [if_neg c2] at H;have c2b0:decide ((a0.size:Int)≤60)=false:=decide_eq_false c2;have c2b1:decide (a0.size≤60)=false:=decide_eq_false (by omega);clear c2;obtain rfl:=Option.some.inj H
  go_enter Tryz.func16,Tryz.ntmps16
  go_wp2
  go_ret
  exact⟨zq8,zq9⟩
end
section
attribute [local go_sem] max2_int min2_int max_two min_two max_three min_three max_four min_four
def spec_DualOf.l0 : Nat → ByteArray → ByteArray → Int → Option (ByteArray)
 | 0, _, _, _ => none
 | k + 1, x0, x3, x4 => if x4 < (x0.size : Int) then (if 0 ≤ x4 then (if (bt x0 x4) = 38 then (if x3.size + 1 ≤ 9223372036854775807 then (spec_DualOf.l0 k x0 (x3 ++ (⟨#[124]⟩ : ByteArray)) (wrap64 (x4 + 1))) else (none)) else (if (bt x0 x4) = 124 then (if x3.size + 1 ≤ 9223372036854775807 then (spec_DualOf.l0 k x0 (x3 ++ (⟨#[38]⟩ : ByteArray)) (wrap64 (x4 + 1))) else (none)) else (if (bt x0 x4) = 48 then (if x3.size + 1 ≤ 9223372036854775807 then (spec_DualOf.l0 k x0 (x3 ++ (⟨#[49]⟩ : ByteArray)) (wrap64 (x4 + 1))) else (none)) else (if (bt x0 x4) = 49 then (if x3.size + 1 ≤ 9223372036854775807 then (spec_DualOf.l0 k x0 (x3 ++ (⟨#[48]⟩ : ByteArray)) (wrap64 (x4 + 1))) else (none)) else (if x4 ≤ (wrap64 (x4 + 1)) then (if (wrap64 (x4 + 1)) ≤ (x0.size : Int) then (if x3.size + (x0.extract (x4 : Int).toNat ((wrap64 (x4 + 1)) : Int).toNat).size ≤ 9223372036854775807 then (spec_DualOf.l0 k x0 (x3 ++ (x0.extract (x4 : Int).toNat ((wrap64 (x4 + 1)) : Int).toNat)) (wrap64 (x4 + 1))) else (none)) else (none)) else (none)))))) else (none)) else (some x3)
def spec_DualOf.f (k : Nat) (a0 : ByteArray) : Option (ByteArray) := (spec_FormulaOk.f k a0).bind fun t155 => (if t155 = true then (spec_DualOf.l0 k a0 (⟨#[]⟩ : ByteArray) 0) else (some (⟨#[]⟩ : ByteArray)))
set_option maxHeartbeats 8000000 in
set_option maxRecDepth 100000 in
theorem spec_DualOf.calls (k : Nat) (a0 : ByteArray) (r : ByteArray) (w : World) (h : spec_DualOf.f k a0 = some r) :
  Calls Tryz.prog 6 #[.string a0] w fun e w' => e = .returned (.string r) ∧ Drawn0 w w' := by
 have H:((spec_FormulaOk.f k a0).bind fun b0=>(if b0=true then(spec_DualOf.l0 k a0 (⟨#[]⟩:ByteArray) 0) else(some (⟨#[]⟩:ByteArray))))=some r:=h;clear h;replace H:=Option.bind_eq_some_iff.mp H;obtain⟨b0,b8,H⟩:=H;(try dsimp only at H);have A2:=zqm b8;clear b8
 by_cases c3:b0=true
 ·subst c3;rw [if_pos rfl] at H;have H':=zqm H;clear H
  go_enter Tryz.func6,Tryz.ntmps6
  go_wp2_with (first|((with_reducible refine gate_callee (f:=16) rfl ?_);refine goesL_ (some 6) rfl rfl Tryz.func16 zqk rfl #[.string a0] rfl zq3 ?_;(with_reducible refine(spec_FormulaOk.calls k a0 true _ A2.out).mono ?_);rintro e w' ⟨rfl,⟨nd,rfl⟩⟩;refine⟨_,rfl,?_⟩))
  go_loopg [3,4] k (fun kq v3 v4 w'=> ∃(a2:ByteArray) (a1:Int),v3= .string a2∧v4= .int .i64 a1∧Aside0 (spec_DualOf.l0 kq a0 a2 a1=some r)∧Aside0 (kq≤k)∧Drawn0 w w')
  case atStart=>exact⟨((⟨#[]⟩:ByteArray)),(0),zq8,zq8,H',⟨Nat.le_refl _⟩,zq9⟩
  case round=>
   clear H';(try clear c1);(try clear p2);(try clear c3);obtain⟨a2,a1,rfl,rfl,HA,a3,⟨m1,rfl⟩⟩:=hrel
   cases gk with
   |zero=>exact absurd HA.out (by simp [spec_DualOf.l0])
   |succ k1=>
    have H:=HA.out;clear HA;simp only [spec_DualOf.l0] at H
    by_cases c4:a1<(a0.size:Int)
    ·rw [if_pos c4] at H;have b9:decide (a1<(a0.size:Int))=true:=decide_eq_true c4;clear c4
     by_cases c5:0≤a1
     ·rw [if_pos c5] at H;have e8:decide (0≤a1)=true:=decide_eq_true c5;clear c5
      by_cases c7:(bt a0 a1)=38
      ·rw [if_pos c7] at H;have c0:((bt a0 a1)==38)=true:=beq_iff_eq.mpr c7;have c2:((bt a0 a1) !=38)=false:=bne_eq_false_iff_eq.mpr c7;clear c7
       by_cases c8:a2.size+1≤9223372036854775807
       ·rw [if_pos c8] at H;have e9:=eq_true c8;have f0:decide (a2.size+1≤9223372036854775807)=true:=decide_eq_true c8;(try have f1:(9223372036854775807<a2.size+1)=False:=eq_false (Nat.not_lt.2 c8));have H':=zqm H;clear H;have p6:0≤(a1:Int):=zqo;have q6:a1<(a0.size:Int):=zqo;have b3:=bt_at a0 a1;replace p6:=eq_true p6;replace q6:=eq_true q6
        go_wp2
        go_roundg k1
        (case measure=>have:=a3.out;omega);case rel=>exact⟨(a2 ++ (⟨#[124]⟩:ByteArray)),(wrap64 (a1+1)),zq8,zq8,H',⟨by have:=a3.out;omega⟩,zq9⟩
       ·rw [if_neg c8] at H;exact absurd H (by simp)
      ·rw [if_neg c7] at H;have c0:((bt a0 a1)==38)=false:=beq_eq_false_iff_ne.mpr c7;have c2:((bt a0 a1) !=38)=true:=bne_iff_ne.mpr c7
       by_cases c9:(bt a0 a1)=124
       ·rw [if_pos c9] at H;have c6:((bt a0 a1)==124)=true:=beq_iff_eq.mpr c9;have d0:((bt a0 a1) !=124)=false:=bne_eq_false_iff_eq.mpr c9;clear c9
        by_cases a6:a2.size+1≤9223372036854775807
        ·rw [if_pos a6] at H;have d1:=eq_true a6;have d2:decide (a2.size+1≤9223372036854775807)=true:=decide_eq_true a6;(try have d3:(9223372036854775807<a2.size+1)=False:=eq_false (Nat.not_lt.2 a6));have H':=zqm H;clear H;have p6:0≤(a1:Int):=zqo;have q6:a1<(a0.size:Int):=zqo;have b3:=bt_at a0 a1;replace p6:=eq_true p6;replace q6:=eq_true q6
         go_wp2
         go_roundg k1
         (case measure=>have:=a3.out;omega);case rel=>exact⟨(a2 ++ (⟨#[38]⟩:ByteArray)),(wrap64 (a1+1)),zq8,zq8,H',⟨by have:=a3.out;omega⟩,zq9⟩
        ·rw [if_neg a6] at H;exact absurd H (by simp)
       ·rw [if_neg c9] at H;have c6:((bt a0 a1)==124)=false:=beq_eq_false_iff_ne.mpr c9;have d0:((bt a0 a1) !=124)=true:=bne_iff_ne.mpr c9
        by_cases a4:(bt a0 a1)=48
        ·rw [if_pos a4] at H;have b4:((bt a0 a1)==48)=true:=beq_iff_eq.mpr a4;have b5:((bt a0 a1) !=48)=false:=bne_eq_false_iff_eq.mpr a4;clear a4
         by_cases a7:a2.size+1≤9223372036854775807
         ·rw [if_pos a7] at H;have d4:=eq_true a7;have d5:decide (a2.size+1≤9223372036854775807)=true:=decide_eq_true a7;(try have d6:(9223372036854775807<a2.size+1)=False:=eq_false (Nat.not_lt.2 a7));have H':=zqm H;clear H;have p6:0≤(a1:Int):=zqo;have q6:a1<(a0.size:Int):=zqo;have b3:=bt_at a0 a1;replace p6:=eq_true p6;replace q6:=eq_true q6
          go_wp2
          go_roundg k1
          (case measure=>have:=a3.out;omega);case rel=>exact⟨(a2 ++ (⟨#[49]⟩:ByteArray)),(wrap64 (a1+1)),zq8,zq8,H',⟨by have:=a3.out;omega⟩,zq9⟩
         ·rw [if_neg a7] at H;exact absurd H (by simp)
        ·rw [if_neg a4] at H;have b4:((bt a0 a1)==48)=false:=beq_eq_false_iff_ne.mpr a4;have b5:((bt a0 a1) !=48)=true:=bne_iff_ne.mpr a4
         by_cases a5:(bt a0 a1)=49
         ·rw [if_pos a5] at H;have b6:((bt a0 a1)==49)=true:=beq_iff_eq.mpr a5;have b7:((bt a0 a1) !=49)=false:=bne_eq_false_iff_eq.mpr a5;clear a5
          by_cases a8:a2.size+1≤9223372036854775807
          ·rw [if_pos a8] at H;have d7:=eq_true a8;have d8:decide (a2.size+1≤9223372036854775807)=true:=decide_eq_true a8;(try have d9:(9223372036854775807<a2.size+1)=False:=eq_false (Nat.not_lt.2 a8));have H':=zqm H;clear H;have p6:0≤(a1:Int):=zqo;have q6:a1<(a0.size:Int):=zqo;have b3:=bt_at a0 a1;replace p6:=eq_true p6;replace q6:=eq_true q6
           go_wp2
           go_roundg k1
           (case measure=>have:=a3.out;omega);case rel=>exact⟨(a2 ++ (⟨#[48]⟩:ByteArray)),(wrap64 (a1+1)),zq8,zq8,H',⟨by have:=a3.out;omega⟩,zq9⟩
          ·rw [if_neg a8] at H;exact absurd H (by simp)
         ·rw [if_neg a5] at H;have b6:((bt a0 a1)==49)=false:=beq_eq_false_iff_ne.mpr a5;have b7:((bt a0 a1) !=49)=true:=bne_iff_ne.mpr a5;have e0:=eq_true (zqo:0≤a1)
          by_cases b1:a1≤(wrap64 (a1+1))
          ·rw [if_pos b1] at H;have e1:=eq_true b1;have e2:decide (a1≤(wrap64 (a1+1)))=true:=decide_eq_true b1
           by_cases b2:(wrap64 (a1+1))≤(a0.size:Int)
           ·rw [if_pos b2] at H;have e3:=eq_true b2;have e4:decide ((wrap64 (a1+1))≤(a0.size:Int))=true:=decide_eq_true b2
            by_cases a9:a2.size+(a0.extract (a1:Int).toNat ((wrap64 (a1+1)):Int).toNat).size≤9223372036854775807
            ·rw [if_pos a9] at H;have e5:=eq_true a9;have e6:decide (a2.size+(a0.extract (a1:Int).toNat ((wrap64 (a1+1)):Int).toNat).size≤9223372036854775807)=true:=decide_eq_true a9;(try have e7:(9223372036854775807<a2.size+(a0.extract (a1:Int).toNat ((wrap64 (a1+1)):Int).toNat).size)=False:=eq_false (Nat.not_lt.2 a9));have H':=zqm H;clear H;have p6:0≤(a1:Int):=zqo;have q6:a1<(a0.size:Int):=zqo;have b3:=bt_at a0 a1;replace p6:=eq_true p6;replace q6:=eq_true q6
             go_wp2
             go_roundg k1
             (case measure=>have:=a3.out;omega);case rel=>exact⟨(a2 ++ (a0.extract (a1:Int).toNat ((wrap64 (a1+1)):Int).toNat)),(wrap64 (a1+1)),zq8,zq8,H',⟨by have:=a3.out;omega⟩,zq9⟩
            ·rw [if_neg a9] at H;exact absurd H (by simp)
           ·rw [if_neg b2] at H;exact absurd H (by simp)
          ·rw [if_neg b1] at H;exact absurd H (by simp)
     ·rw [if_neg c5] at H;exact absurd H (by simp)
    ·rw [if_neg c4] at H;have b9:decide (a1<(a0.size:Int))=false:=decide_eq_false c4;clear c4;obtain rfl:=Option.some.inj H
     go_wp2
     go_ret
     exact⟨zq8,zq9⟩
 ·replace c3:=Bool.eq_false_iff.mpr c3;subst c3;rw [if_neg (show¬(false=true) by decide)] at H;obtain rfl:=Option.some.inj H
  go_enter Tryz.func6,Tryz.ntmps6
  go_wp2_with (first|((with_reducible refine gate_callee (f:=16) rfl ?_);refine goesL_ (some 6) rfl rfl Tryz.func16 zqk rfl #[.string a0] rfl zq3 ?_;(with_reducible refine(spec_FormulaOk.calls k a0 false _ A2.out).mono ?_);rintro e w' ⟨rfl,⟨nd,rfl⟩⟩;refine⟨_,rfl,?_⟩))
  go_ret
  exact⟨zq8,zq9⟩
end
section
attribute [local go_sem] max2_int min2_int max_two min_two max_three min_three max_four min_four
mutual
def impl_OrderOk.j0 : Nat → List (List Int) → Int → Bool → Option (Bool)
 | 0, _, _, _ => none
 | k + 1, x0, x3, x18 => if x18 = true then (some false) else (impl_OrderOk.l0 k x0 x3 x0 (x0.length : Int) 0)
def impl_OrderOk.l0 : Nat → List (List Int) → Int → List (List Int) → Int → Int → Option (Bool)
 | 0, _, _, _, _, _ => none
 | k + 1, x0, x3, x19, x20, x21 => if x21 < x20 then (if 0 ≤ x21 then (if x21 < (x19.length : Int) then (if ((rd_L3 x19 x21).length : Int) = x3 then (if x21 < ((rd_L3 x19 x21).length : Int) then (impl_OrderOk.j2 k x0 x3 x21 (rd_L3 x19 x21) x19 x20 x21 ((rd (rd_L3 x19 x21) x21) != 1)) else (none)) else (impl_OrderOk.j2 k x0 x3 x21 (rd_L3 x19 x21) x19 x20 x21 true)) else (none)) else (none)) else (impl_OrderOk.l2 k x0 x3 x3 0)
def impl_OrderOk.j2 : Nat → List (List Int) → Int → Int → List Int → List (List Int) → Int → Int → Bool → Option (Bool)
 | 0, _, _, _, _, _, _, _, _ => none
 | k + 1, x0, x3, x4, x5, x19, x20, x21, x36 => if x36 = true then (some false) else (impl_OrderOk.l1 k x0 x3 x4 x19 x20 x21 x5 (x5.length : Int) 0)
def impl_OrderOk.l1 : Nat → List (List Int) → Int → Int → List (List Int) → Int → Int → List Int → Int → Int → Option (Bool)
 | 0, _, _, _, _, _, _, _, _, _ => none
 | k + 1, x0, x3, x4, x19, x20, x21, x37, x38, x39 => if x39 < x38 then (if 0 ≤ x39 then (if x39 < (x37.length : Int) then (if (rd x37 x39) = 0 then (impl_OrderOk.j4 k x0 x3 x4 x39 (rd x37 x39) x19 x20 x21 x37 x38 x39 false) else (impl_OrderOk.j4 k x0 x3 x4 x39 (rd x37 x39) x19 x20 x21 x37 x38 x39 ((rd x37 x39) != 1))) else (none)) else (none)) else (impl_OrderOk.l0 k x0 x3 x19 x20 (wrap64 (x21 + 1)))
def impl_OrderOk.j4 : Nat → List (List Int) → Int → Int → Int → Int → List (List Int) → Int → Int → List Int → Int → Int → Bool → Option (Bool)
 | 0, _, _, _, _, _, _, _, _, _, _, _, _ => none
 | k + 1, x0, x3, x4, x6, x7, x19, x20, x21, x37, x38, x39, x49 => if x49 = true then (some false) else (if 0 ≤ x6 then (if x6 < (x0.length : Int) then (if ((rd_L3 x0 x6).length : Int) = x3 then (if x7 = 1 then (if x4 = x6 then (impl_OrderOk.l1 k x0 x3 x4 x19 x20 x21 x37 x38 (wrap64 (x39 + 1))) else (if 0 ≤ x4 then (if x4 < ((rd_L3 x0 x6).length : Int) then (if (rd (rd_L3 x0 x6) x4) = 1 then (some false) else (impl_OrderOk.l1 k x0 x3 x4 x19 x20 x21 x37 x38 (wrap64 (x39 + 1)))) else (none)) else (none))) else (impl_OrderOk.l1 k x0 x3 x4 x19 x20 x21 x37 x38 (wrap64 (x39 + 1)))) else (some false)) else (none)) else (none))
def impl_OrderOk.l2 : Nat → List (List Int) → Int → Int → Int → Option (Bool)
 | 0, _, _, _, _ => none
 | k + 1, x0, x3, x78, x79 => if x79 < x78 then (impl_OrderOk.l3 k x0 x3 x79 x78 x79 x3 0) else (some true)
def impl_OrderOk.l3 : Nat → List (List Int) → Int → Int → Int → Int → Int → Int → Option (Bool)
 | 0, _, _, _, _, _, _, _ => none
 | k + 1, x0, x3, x8, x78, x79, x82, x83 => if x83 < x82 then (impl_OrderOk.l4 k x0 x3 x8 x83 x78 x79 x82 x83 x3 0) else (impl_OrderOk.l2 k x0 x3 x78 (wrap64 (x79 + 1)))
def impl_OrderOk.l4 : Nat → List (List Int) → Int → Int → Int → Int → Int → Int → Int → Int → Int → Option (Bool)
 | 0, _, _, _, _, _, _, _, _, _, _ => none
 | k + 1, x0, x3, x8, x9, x78, x79, x82, x83, x86, x87 => if x87 < x86 then (if 0 ≤ x8 then (if x8 < (x0.length : Int) then (if 0 ≤ x9 then (if x9 < ((rd_L3 x0 x8).length : Int) then (if (rd (rd_L3 x0 x8) x9) = 1 then (if x9 < (x0.length : Int) then (if 0 ≤ x87 then (if x87 < ((rd_L3 x0 x9).length : Int) then (if (rd (rd_L3 x0 x9) x87) = 1 then (if x87 < ((rd_L3 x0 x8).length : Int) then (if (rd (rd_L3 x0 x8) x87) = 1 then (impl_OrderOk.l4 k x0 x3 x8 x9 x78 x79 x82 x83 x86 (wrap64 (x87 + 1))) else (some false)) else (none)) else (impl_OrderOk.l4 k x0 x3 x8 x9 x78 x79 x82 x83 x86 (wrap64 (x87 + 1)))) else (none)) else (none)) else (none)) else (impl_OrderOk.l4 k x0 x3 x8 x9 x78 x79 x82 x83 x86 (wrap64 (x87 + 1)))) else (none)) else (none)) else (none)) else (none)) else (impl_OrderOk.l3 k x0 x3 x8 x78 x79 x82 (wrap64 (x83 + 1)))
end
def impl_OrderOk.f (k : Nat) (l0 : List (List Int)) : Option (Bool) := if (l0.length : Int) < 1 then (impl_OrderOk.j0 k l0 (l0.length : Int) true) else (impl_OrderOk.j0 k l0 (l0.length : Int) (decide ((l0.length : Int) > 12)))
set_option maxHeartbeats 8000000 in
set_option maxRecDepth 100000 in
theorem impl_OrderOk.calls (k : Nat) (A0 : Option Addr) (c0 : Nat) (l0 : List (List Int)) (r : Bool) (w : World) (hr0 : Kd.C (Kd.slice 3 (Kd.int .i64)) w A0 l0.length l0) (hc0 : l0.length ≤ c0) (h : impl_OrderOk.f k l0 = some r) :
  Calls Tryz.prog 18 #[.slice A0 l0.length c0] w fun e w' => e = .returned (.bool r) ∧ Drawn0 w w' := by
 have c2:=zqm hr0;have w2:=zqm hc0;clear hr0 hc0;have H:(if(l0.length:Int)<1 then(impl_OrderOk.j0 k l0 (l0.length:Int) true) else(impl_OrderOk.j0 k l0 (l0.length:Int) (decide ((l0.length:Int)>12))))=some r:=h;clear h;have p4:=zqm H;clear H
 go_enter Tryz.func18,Tryz.ntmps18
 go_upto_region 2 with (fail)
 go_cut [18] (fun t5 wc=> ∃(kq:Nat) (h2:Bool),t5= .bool h2∧Aside0 (impl_OrderOk.j0 kq l0 (l0.length:Int) h2=some r)∧Aside0 (kq≤k)∧Drawn0 w wc)
 case first=>
  have H:=p4.out;clear p4
  by_cases c3:(l0.length:Int)<1
  ·rw [if_pos c3] at H;have i3:decide ((l0.length:Int)<1)=true:=decide_eq_true c3;have s2:decide (l0.length<1)=true:=decide_eq_true (by omega);clear c3;(first|rw [i3]|(simp only [i64_w,i32_w];rw [i3])|skip);have H':=zqm H;clear H
   go_wp2
   go_meet
   case rel=>exact⟨_,(true),zq8,H',⟨zq52⟩,zq9⟩
  ·rw [if_neg c3] at H;have i3:decide ((l0.length:Int)<1)=false:=decide_eq_false c3;have s2:decide (l0.length<1)=false:=decide_eq_false (by omega);clear c3;(first|rw [i3]|(simp only [i64_w,i32_w];rw [i3])|skip);have H':=zqm H;clear H
   go_wp2
   go_meet
   case rel=>exact⟨_,(decide ((l0.length:Int)>12)),zq8,H',⟨zq52⟩,zq9⟩
 case rest=>
  clear p4;obtain⟨kq,h2,rfl,HA,b1,⟨mc1,rfl⟩⟩:=hcut
  cases kq with
  |zero=>exact absurd HA.out (by simp [impl_OrderOk.j0])
  |succ s0=>
   have H:=HA.out;clear HA;simp only [impl_OrderOk.j0] at H
   by_cases c4:h2=true
   ·subst c4;rw [if_pos rfl] at H;obtain rfl:=Option.some.inj H
    go_wp2
    go_ret
    exact⟨zq8,zq9⟩
   ·replace c4:=Bool.eq_false_iff.mpr c4;subst c4;rw [if_neg (show¬(false=true) by decide)] at H;have H':=zqm H;clear H
    go_wp2
    go_loopg [21] s0 (fun kq t6 w'=> ∃(a0:Int),t6= .int .i64 a0∧Aside0 (impl_OrderOk.l0 kq l0 (l0.length:Int) l0 (l0.length:Int) a0=some r)∧Aside0 (kq≤s0)∧Drawn0 w w')
    case atStart=>exact⟨(0),zq8,H',⟨Nat.le_refl _⟩,zq9⟩
    case round=>
     clear H';obtain⟨a0,rfl,HA,b2,⟨m2,rfl⟩⟩:=hrel
     cases gk with
     |zero=>exact absurd HA.out (by simp [impl_OrderOk.l0])
     |succ k2=>
      have H:=HA.out;clear HA;simp only [impl_OrderOk.l0] at H
      by_cases c5:a0<(l0.length:Int)
      ·rw [if_pos c5] at H;have s3:decide (a0<(l0.length:Int))=true:=decide_eq_true c5;clear c5
       by_cases c6:0≤a0
       ·rw [if_pos c6] at H;have w0:decide (0≤a0)=true:=decide_eq_true c6;clear c6
        by_cases c7:a0<(l0.length:Int)
        ·rw [if_pos c7] at H;have w1:decide (a0<(l0.length:Int))=true:=decide_eq_true c7;clear c7;have p5:=zqm H;clear H;have m0:0≤(a0:Int):=zqo;have m7:a0<(l0.length:Int):=zqo;obtain⟨e2,t3,t4,s6,t0,j7,j6⟩:=at_L3 c2.out a0 m0 m7
         cases s6
         have i8:=zqm j6;have s9:=zqm j7;clear j6 j7;replace m0:=eq_true m0;replace m7:=eq_true m7
         go_upto_region 7 with (fail)
         go_cut [36] (fun t7 wc=> ∃(kq:Nat) (h3:Bool),t7= .bool h3∧Aside0 (impl_OrderOk.j2 kq l0 (l0.length:Int) a0 (rd_L3 l0 a0) l0 (l0.length:Int) a0 h3=some r)∧Aside0 (kq≤k2)∧Drawn0 w wc)
         case first=>
          have H:=p5.out;clear p5
          by_cases c9:((rd_L3 l0 a0).length:Int)=(l0.length:Int)
          ·rw [if_pos c9] at H;have i4:(((rd_L3 l0 a0).length:Int)==(l0.length:Int))=true:=beq_iff_eq.mpr c9;have s4:(((rd_L3 l0 a0).length:Int) !=(l0.length:Int))=false:=bne_eq_false_iff_eq.mpr c9;(have s5:((rd_L3 l0 a0).length==l0.length)=true:=by first|simpa using c9|(simp at c9 ⊢;omega));clear c9;(first|rw [i4]|(simp only [i64_w,i32_w];rw [i4])|skip)
           by_cases n1:a0<((rd_L3 l0 a0).length:Int)
           ·rw [if_pos n1] at H;have u5:decide (a0<((rd_L3 l0 a0).length:Int))=true:=decide_eq_true n1;clear n1;have H':=zqm H;clear H;have m1:0≤(a0:Int):=zqo;have m8:a0<((rd_L3 l0 a0).length:Int):=zqo;obtain⟨u3,s7,t1⟩:=Kd.at_int i8.out a0 m1 m8
            cases s7
            replace m1:=eq_true m1;replace m8:=eq_true m8
            go_wp2
            go_meet
            case rel=>exact⟨_,(((rd (rd_L3 l0 a0) a0) !=1)),zq8,H',⟨by have:=b1.out;have:=b2.out;first|omega|exact Nat.le_refl _⟩,zq9⟩
           ·rw [if_neg n1] at H;exact absurd H (by simp)
          ·rw [if_neg c9] at H;have i4:(((rd_L3 l0 a0).length:Int)==(l0.length:Int))=false:=beq_eq_false_iff_ne.mpr c9;have s4:(((rd_L3 l0 a0).length:Int) !=(l0.length:Int))=true:=bne_iff_ne.mpr c9;(have s5:((rd_L3 l0 a0).length==l0.length)=false:=by first|simpa using c9|(simp at c9 ⊢;omega));(first|rw [i4]|(simp only [i64_w,i32_w];rw [i4])|skip);have H':=zqm H;clear H
           go_wp2
           go_meet
           case rel=>exact⟨_,(true),zq8,H',⟨by have:=b1.out;have:=b2.out;first|omega|exact Nat.le_refl _⟩,zq9⟩
         case rest=>
          clear p5;obtain⟨kq,h3,rfl,HA,e7,⟨mc7,rfl⟩⟩:=hcut
          cases kq with
          |zero=>exact absurd HA.out (by simp [impl_OrderOk.j2])
          |succ s1=>
           have H:=HA.out;clear HA;simp only [impl_OrderOk.j2] at H
           by_cases n2:h3=true
           ·subst n2;rw [if_pos rfl] at H;obtain rfl:=Option.some.inj H
            go_wp2
            go_ret
            exact⟨zq8,zq9⟩
           ·replace n2:=Bool.eq_false_iff.mpr n2;subst n2;rw [if_neg (show¬(false=true) by decide)] at H;have H':=zqm H;clear H
            go_wp2
            go_loopg [39] s1 (fun kq t8 w'=> ∃(a1:Int),t8= .int .i64 a1∧Aside0 (impl_OrderOk.l1 kq l0 (l0.length:Int) a0 l0 (l0.length:Int) a0 (rd_L3 l0 a0) ((rd_L3 l0 a0).length:Int) a1=some r)∧Aside0 (kq≤s1)∧Drawn0 w w')
            case atStart=>exact⟨(0),zq8,H',⟨Nat.le_refl _⟩,zq9⟩
            case round=>
             clear H';obtain⟨a1,rfl,HA,b3,⟨m4,rfl⟩⟩:=hrel
             cases gk with
             |zero=>exact absurd HA.out (by simp [impl_OrderOk.l1])
             |succ k4=>
              have H:=HA.out;clear HA;simp only [impl_OrderOk.l1] at H
              by_cases i9:a1<((rd_L3 l0 a0).length:Int)
              ·rw [if_pos i9] at H;have q0:decide (a1<((rd_L3 l0 a0).length:Int))=true:=decide_eq_true i9;clear i9
               by_cases n3:0≤a1
               ·rw [if_pos n3] at H;have u6:decide (0≤a1)=true:=decide_eq_true n3;clear n3
                by_cases n4:a1<((rd_L3 l0 a0).length:Int)
                ·rw [if_pos n4] at H;have u7:decide (a1<((rd_L3 l0 a0).length:Int))=true:=decide_eq_true n4;clear n4;have k9:=zqm H;clear H;have m6:0≤(a1:Int):=zqo;have m9:a1<((rd_L3 l0 a0).length:Int):=zqo;obtain⟨u4,s8,t2⟩:=Kd.at_int i8.out a1 m6 m9
                 cases s8
                 replace m6:=eq_true m6;replace m9:=eq_true m9
                 go_upto_region 12 with (fail)
                 go_cut [49] (fun t9 wc=> ∃(kq:Nat) (g3:Bool),t9= .bool g3∧Aside0 (impl_OrderOk.j4 kq l0 (l0.length:Int) a0 a1 (rd (rd_L3 l0 a0) a1) l0 (l0.length:Int) a0 (rd_L3 l0 a0) ((rd_L3 l0 a0).length:Int) a1 g3=some r)∧Aside0 (kq≤k4)∧Drawn0 w wc)
                 case first=>
                  have H:=k9.out;clear k9
                  by_cases h5:(rd (rd_L3 l0 a0) a1)=0
                  ·rw [if_pos h5] at H;have g2:((rd (rd_L3 l0 a0) a1)==0)=true:=beq_iff_eq.mpr h5;have q1:((rd (rd_L3 l0 a0) a1) !=0)=false:=bne_eq_false_iff_eq.mpr h5;clear h5;(first|rw [g2]|(simp only [i64_w,i32_w];rw [g2])|skip);have H':=zqm H;clear H
                   go_wp2
                   go_meet
                   case rel=>exact⟨_,(false),zq8,H',⟨zq130⟩,zq9⟩
                  ·rw [if_neg h5] at H;have g2:((rd (rd_L3 l0 a0) a1)==0)=false:=beq_eq_false_iff_ne.mpr h5;have q1:((rd (rd_L3 l0 a0) a1) !=0)=true:=bne_iff_ne.mpr h5;(first|rw [g2]|(simp only [i64_w,i32_w];rw [g2])|skip);have H':=zqm H;clear H
                   go_wp2
                   go_meet
                   case rel=>exact⟨_,(((rd (rd_L3 l0 a0) a1) !=1)),zq8,H',⟨zq130⟩,zq9⟩
                 case rest=>
                  clear k9;obtain⟨kq,g3,rfl,HA,g5,⟨mc14,rfl⟩⟩:=hcut
                  cases kq with
                  |zero=>exact absurd HA.out (by simp [impl_OrderOk.j4])
                  |succ l9=>
                   have H:=HA.out;clear HA;simp only [impl_OrderOk.j4] at H
                   by_cases n5:g3=true
                   ·subst n5;rw [if_pos rfl] at H;obtain rfl:=Option.some.inj H
                    go_wp2
                    go_ret
                    exact⟨zq8,zq9⟩
                   ·replace n5:=Bool.eq_false_iff.mpr n5;subst n5;rw [if_neg (show¬(false=true) by decide)] at H
                    by_cases n6:0≤a1
                    ·rw [if_pos n6] at H;have u8:decide (0≤a1)=true:=decide_eq_true n6;clear n6
                     by_cases n7:a1<(l0.length:Int)
                     ·rw [if_pos n7] at H;have u9:decide (a1<(l0.length:Int))=true:=decide_eq_true n7;clear n7
                      by_cases e4:((rd_L3 l0 a1).length:Int)=(l0.length:Int)
                      ·rw [if_pos e4] at H;have q2:(((rd_L3 l0 a1).length:Int)==(l0.length:Int))=true:=beq_iff_eq.mpr e4;have q3:(((rd_L3 l0 a1).length:Int) !=(l0.length:Int))=false:=bne_eq_false_iff_eq.mpr e4;(have q4:((rd_L3 l0 a1).length==l0.length)=true:=by first|simpa using e4|(simp at e4 ⊢;omega));clear e4
                       by_cases h7:(rd (rd_L3 l0 a0) a1)=1
                       ·rw [if_pos h7] at H;have q5:((rd (rd_L3 l0 a0) a1)==1)=true:=beq_iff_eq.mpr h7;have q6:((rd (rd_L3 l0 a0) a1) !=1)=false:=bne_eq_false_iff_eq.mpr h7;clear h7
                        by_cases h8:a0=a1
                        ·rw [if_pos h8] at H;have q7:(a0==a1)=true:=beq_iff_eq.mpr h8;have q8:(a0 !=a1)=false:=bne_eq_false_iff_eq.mpr h8;clear h8;have H':=zqm H;clear H;have a9:0≤(a1:Int):=zqo;have b0:a1<(l0.length:Int):=zqo;obtain⟨c8,f9,g1,e3,d0,a6,a5⟩:=at_L3 c2.out a1 a9 b0;obtain rfl:e2=c8:=(by injection e3);have e6:=zqm a5;have e5:=zqm a6;clear a5 a6;replace a9:=eq_true a9;replace b0:=eq_true b0
                         go_wp2
                         go_roundg l9
                         (case measure=> exact zq75);case rel=>exact⟨(wrap64 (a1+1)),zq8,H',⟨zq75⟩,zq9⟩
                        ·rw [if_neg h8] at H;have q7:(a0==a1)=false:=beq_eq_false_iff_ne.mpr h8;have q8:(a0 !=a1)=true:=bne_iff_ne.mpr h8
                         by_cases n8:0≤a0
                         ·rw [if_pos n8] at H;have v0:decide (0≤a0)=true:=decide_eq_true n8;clear n8
                          by_cases n9:a0<((rd_L3 l0 a1).length:Int)
                          ·rw [if_pos n9] at H;have v1:decide (a0<((rd_L3 l0 a1).length:Int))=true:=decide_eq_true n9;clear n9
                           by_cases h9:(rd (rd_L3 l0 a1) a0)=1
                           ·rw [if_pos h9] at H;have q9:((rd (rd_L3 l0 a1) a0)==1)=true:=beq_iff_eq.mpr h9;have r0:((rd (rd_L3 l0 a1) a0) !=1)=false:=bne_eq_false_iff_eq.mpr h9;clear h9;obtain rfl:=Option.some.inj H;have a9:0≤(a1:Int):=zqo;have b0:a1<(l0.length:Int):=zqo;obtain⟨c8,f9,g1,e3,d0,a6,a5⟩:=at_L3 c2.out a1 a9 b0;obtain rfl:e2=c8:=(by injection e3);have e6:=zqm a5;have e5:=zqm a6;clear a5 a6;replace a9:=eq_true a9;replace b0:=eq_true b0;have f1:0≤(a1:Int):=zqo;have f5:a1<(l0.length:Int):=zqo;obtain⟨k0,p2,p6,l5,g8,d9,d7⟩:=at_L3 c2.out a1 f1 f5;obtain rfl:e2=k0:=(by injection l5);have g6:=zqm d7;have o8:=zqm d9;clear d7 d9;replace f1:=eq_true f1;replace f5:=eq_true f5;have ea_:=Option.some.inj (d0.symm.trans g8);injection ea_ with ea_ en_ ec_;subst ea_;subst ec_;clear en_;have f2:0≤(a0:Int):=zqo;have f6:a0<((rd_L3 l0 a1).length:Int):=zqo;obtain⟨p8,l6,p0⟩:=Kd.at_int g6.out a0 f2 f6
                            cases l6
                            replace f2:=eq_true f2;replace f6:=eq_true f6
                            go_wp2
                            go_ret
                            exact⟨zq8,zq9⟩
                           ·rw [if_neg h9] at H;have q9:((rd (rd_L3 l0 a1) a0)==1)=false:=beq_eq_false_iff_ne.mpr h9;have r0:((rd (rd_L3 l0 a1) a0) !=1)=true:=bne_iff_ne.mpr h9;have H':=zqm H;clear H;have a9:0≤(a1:Int):=zqo;have b0:a1<(l0.length:Int):=zqo;obtain⟨c8,f9,g1,e3,d0,a6,a5⟩:=at_L3 c2.out a1 a9 b0;obtain rfl:e2=c8:=(by injection e3);have e6:=zqm a5;have e5:=zqm a6;clear a5 a6;replace a9:=eq_true a9;replace b0:=eq_true b0;have f1:0≤(a1:Int):=zqo;have f5:a1<(l0.length:Int):=zqo;obtain⟨k0,p2,p6,l5,g8,d9,d7⟩:=at_L3 c2.out a1 f1 f5;obtain rfl:e2=k0:=(by injection l5);have g6:=zqm d7;have o8:=zqm d9;clear d7 d9;replace f1:=eq_true f1;replace f5:=eq_true f5;have ea_:=Option.some.inj (d0.symm.trans g8);injection ea_ with ea_ en_ ec_;subst ea_;subst ec_;clear en_;have f2:0≤(a0:Int):=zqo;have f6:a0<((rd_L3 l0 a1).length:Int):=zqo;obtain⟨p8,l6,p0⟩:=Kd.at_int g6.out a0 f2 f6
                            cases l6
                            replace f2:=eq_true f2;replace f6:=eq_true f6
                            go_wp2
                            go_roundg l9
                            (case measure=> exact zq75);case rel=>exact⟨(wrap64 (a1+1)),zq8,H',⟨zq75⟩,zq9⟩
                          ·rw [if_neg n9] at H;exact absurd H (by simp)
                         ·rw [if_neg n8] at H;exact absurd H (by simp)
                       ·rw [if_neg h7] at H;have q5:((rd (rd_L3 l0 a0) a1)==1)=false:=beq_eq_false_iff_ne.mpr h7;have q6:((rd (rd_L3 l0 a0) a1) !=1)=true:=bne_iff_ne.mpr h7;have H':=zqm H;clear H;have a9:0≤(a1:Int):=zqo;have b0:a1<(l0.length:Int):=zqo;obtain⟨c8,f9,g1,e3,d0,a6,a5⟩:=at_L3 c2.out a1 a9 b0;obtain rfl:e2=c8:=(by injection e3);have e6:=zqm a5;have e5:=zqm a6;clear a5 a6;replace a9:=eq_true a9;replace b0:=eq_true b0
                        go_wp2
                        go_roundg l9
                        (case measure=> exact zq75);case rel=>exact⟨(wrap64 (a1+1)),zq8,H',⟨zq75⟩,zq9⟩
                      ·rw [if_neg e4] at H;have q2:(((rd_L3 l0 a1).length:Int)==(l0.length:Int))=false:=beq_eq_false_iff_ne.mpr e4;have q3:(((rd_L3 l0 a1).length:Int) !=(l0.length:Int))=true:=bne_iff_ne.mpr e4;(have q4:((rd_L3 l0 a1).length==l0.length)=false:=by first|simpa using e4|(simp at e4 ⊢;omega));obtain rfl:=Option.some.inj H;have a9:0≤(a1:Int):=zqo;have b0:a1<(l0.length:Int):=zqo;obtain⟨c8,f9,g1,e3,d0,a6,a5⟩:=at_L3 c2.out a1 a9 b0;obtain rfl:e2=c8:=(by injection e3);have e6:=zqm a5;have e5:=zqm a6;clear a5 a6;replace a9:=eq_true a9;replace b0:=eq_true b0
                       go_wp2
                       go_ret
                       exact⟨zq8,zq9⟩
                     ·rw [if_neg n7] at H;exact absurd H (by simp)
                    ·rw [if_neg n6] at H;exact absurd H (by simp)
                ·rw [if_neg n4] at H;exact absurd H (by simp)
               ·rw [if_neg n3] at H;exact absurd H (by simp)
              ·rw [if_neg i9] at H;have q0:decide (a1<((rd_L3 l0 a0).length:Int))=false:=decide_eq_false i9;clear i9;have H':=zqm H;clear H
               go_wp2
               go_roundg k4
               (case measure=>have:=b1.out;have:=b2.out;have:=e7.out;have:=b3.out;omega);case rel=>exact⟨(wrap64 (a0+1)),zq8,H',⟨by have:=b1.out;have:=b2.out;have:=e7.out;have:=b3.out;omega⟩,zq9⟩
        ·rw [if_neg c7] at H;exact absurd H (by simp)
       ·rw [if_neg c6] at H;exact absurd H (by simp)
      ·rw [if_neg c5] at H;have s3:decide (a0<(l0.length:Int))=false:=decide_eq_false c5;clear c5;have H':=zqm H;clear H
       go_wp2
       go_loopg [79] k2 (fun kq u0 w'=> ∃(a2:Int),u0= .int .i64 a2∧Aside0 (impl_OrderOk.l2 kq l0 (l0.length:Int) (l0.length:Int) a2=some r)∧Aside0 (kq≤k2)∧Drawn0 w w')
       case atStart=>exact⟨(0),zq8,H',⟨Nat.le_refl _⟩,zq9⟩
       case round=>
        clear H';obtain⟨a2,rfl,HA,e8,⟨m3,rfl⟩⟩:=hrel
        cases gk with
        |zero=>exact absurd HA.out (by simp [impl_OrderOk.l2])
        |succ k3=>
         have H:=HA.out;clear HA;simp only [impl_OrderOk.l2] at H
         by_cases j1:a2<(l0.length:Int)
         ·rw [if_pos j1] at H;have r1:decide (a2<(l0.length:Int))=true:=decide_eq_true j1;clear j1;have H':=zqm H;clear H
          go_wp2
          go_loopg [83] k3 (fun kq u1 w'=> ∃(a3:Int),u1= .int .i64 a3∧Aside0 (impl_OrderOk.l3 kq l0 (l0.length:Int) a2 (l0.length:Int) a2 (l0.length:Int) a3=some r)∧Aside0 (kq≤k3)∧Drawn0 w w')
          case atStart=>exact⟨(0),zq8,H',⟨Nat.le_refl _⟩,zq9⟩
          case round=>
           clear H';obtain⟨a3,rfl,HA,b3,⟨m4,rfl⟩⟩:=hrel
           cases gk with
           |zero=>exact absurd HA.out (by simp [impl_OrderOk.l3])
           |succ k4=>
            have H:=HA.out;clear HA;simp only [impl_OrderOk.l3] at H
            by_cases j3:a3<(l0.length:Int)
            ·rw [if_pos j3] at H;have r2:decide (a3<(l0.length:Int))=true:=decide_eq_true j3;clear j3;have H':=zqm H;clear H
             go_wp2
             go_loopg [87] k4 (fun kq u2 w'=> ∃(a4:Int),u2= .int .i64 a4∧Aside0 (impl_OrderOk.l4 kq l0 (l0.length:Int) a2 a3 (l0.length:Int) a2 (l0.length:Int) a3 (l0.length:Int) a4=some r)∧Aside0 (kq≤k4)∧Drawn0 w w')
             case atStart=>exact⟨(0),zq8,H',⟨Nat.le_refl _⟩,zq9⟩
             case round=>
              clear H';obtain⟨a4,rfl,HA,h1,⟨m5,rfl⟩⟩:=hrel
              cases gk with
              |zero=>exact absurd HA.out (by simp [impl_OrderOk.l4])
              |succ k5=>
               have H:=HA.out;clear HA;simp only [impl_OrderOk.l4] at H
               by_cases j5:a4<(l0.length:Int)
               ·rw [if_pos j5] at H;have r3:decide (a4<(l0.length:Int))=true:=decide_eq_true j5;clear j5
                by_cases o0:0≤a2
                ·rw [if_pos o0] at H;have v2:decide (0≤a2)=true:=decide_eq_true o0;clear o0
                 by_cases o1:a2<(l0.length:Int)
                 ·rw [if_pos o1] at H;have v3:decide (a2<(l0.length:Int))=true:=decide_eq_true o1;clear o1
                  by_cases o2:0≤a3
                  ·rw [if_pos o2] at H;have v4:decide (0≤a3)=true:=decide_eq_true o2;clear o2
                   by_cases o3:a3<((rd_L3 l0 a2).length:Int)
                   ·rw [if_pos o3] at H;have v5:decide (a3<((rd_L3 l0 a2).length:Int))=true:=decide_eq_true o3;clear o3
                    by_cases i0:(rd (rd_L3 l0 a2) a3)=1
                    ·rw [if_pos i0] at H;have r4:((rd (rd_L3 l0 a2) a3)==1)=true:=beq_iff_eq.mpr i0;have r5:((rd (rd_L3 l0 a2) a3) !=1)=false:=bne_eq_false_iff_eq.mpr i0;clear i0
                     by_cases o4:a3<(l0.length:Int)
                     ·rw [if_pos o4] at H;have v6:decide (a3<(l0.length:Int))=true:=decide_eq_true o4;clear o4
                      by_cases o5:0≤a4
                      ·rw [if_pos o5] at H;have v7:decide (0≤a4)=true:=decide_eq_true o5;clear o5
                       by_cases o6:a4<((rd_L3 l0 a3).length:Int)
                       ·rw [if_pos o6] at H;have v8:decide (a4<((rd_L3 l0 a3).length:Int))=true:=decide_eq_true o6;clear o6
                        by_cases i1:(rd (rd_L3 l0 a3) a4)=1
                        ·rw [if_pos i1] at H;have r6:((rd (rd_L3 l0 a3) a4)==1)=true:=beq_iff_eq.mpr i1;have r7:((rd (rd_L3 l0 a3) a4) !=1)=false:=bne_eq_false_iff_eq.mpr i1;clear i1
                         by_cases o7:a4<((rd_L3 l0 a2).length:Int)
                         ·rw [if_pos o7] at H;have v9:decide (a4<((rd_L3 l0 a2).length:Int))=true:=decide_eq_true o7;clear o7
                          by_cases i2:(rd (rd_L3 l0 a2) a4)=1
                          ·rw [if_pos i2] at H;have r8:((rd (rd_L3 l0 a2) a4)==1)=true:=beq_iff_eq.mpr i2;have r9:((rd (rd_L3 l0 a2) a4) !=1)=false:=bne_eq_false_iff_eq.mpr i2;clear i2;have H':=zqm H;clear H;have b4:0≤(a2:Int):=zqo;have b6:a2<(l0.length:Int):=zqo;obtain⟨d5,h4,h6,e9,e1,a8,a7⟩:=at_L3 c2.out a2 b4 b6
                           cases e9
                           have c1:=zqm a7;have g4:=zqm a8;clear a7 a8;replace b4:=eq_true b4;replace b6:=eq_true b6;have b5:0≤(a3:Int):=zqo;have b7:a3<((rd_L3 l0 a2).length:Int):=zqo;obtain⟨k1,f0,g9⟩:=Kd.at_int c1.out a3 b5 b7
                           cases f0
                           replace b5:=eq_true b5;replace b7:=eq_true b7;have d1:0≤(a3:Int):=zqo;have d3:a3<(l0.length:Int):=zqo;obtain⟨g0,k7,k8,i5,j8,b9,b8⟩:=at_L3 c2.out a3 d1 d3;obtain rfl:d5=g0:=(by injection i5);have d6:=zqm b8;have i7:=zqm b9;clear b8 b9;replace d1:=eq_true d1;replace d3:=eq_true d3;have d2:0≤(a4:Int):=zqo;have d4:a4<((rd_L3 l0 a3).length:Int):=zqo;obtain⟨n0,i6,j9⟩:=Kd.at_int d6.out a4 d2 d4
                           cases i6
                           replace d2:=eq_true d2;replace d4:=eq_true d4;have f3:0≤(a2:Int):=zqo;have f7:a2<(l0.length:Int):=zqo;obtain⟨k6,p3,p7,l7,h0,e0,d8⟩:=at_L3 c2.out a2 f3 f7;obtain rfl:d5=k6:=(by injection l7);have g7:=zqm d8;have o9:=zqm e0;clear d8 e0;replace f3:=eq_true f3;replace f7:=eq_true f7;have ea_:=Option.some.inj (e1.symm.trans h0);injection ea_ with ea_ en_ ec_;subst ea_;subst ec_;clear en_;have f4:0≤(a4:Int):=zqo;have f8:a4<((rd_L3 l0 a2).length:Int):=zqo;obtain⟨p9,l8,p1⟩:=Kd.at_int g7.out a4 f4 f8
                           cases l8
                           replace f4:=eq_true f4;replace f8:=eq_true f8
                           go_wp2
                           go_roundg k5
                           (case measure=> exact zq55);case rel=>exact⟨(wrap64 (a4+1)),zq8,H',⟨zq55⟩,zq9⟩
                          ·rw [if_neg i2] at H;have r8:((rd (rd_L3 l0 a2) a4)==1)=false:=beq_eq_false_iff_ne.mpr i2;have r9:((rd (rd_L3 l0 a2) a4) !=1)=true:=bne_iff_ne.mpr i2;obtain rfl:=Option.some.inj H;have b4:0≤(a2:Int):=zqo;have b6:a2<(l0.length:Int):=zqo;obtain⟨d5,h4,h6,e9,e1,a8,a7⟩:=at_L3 c2.out a2 b4 b6
                           cases e9
                           have c1:=zqm a7;have g4:=zqm a8;clear a7 a8;replace b4:=eq_true b4;replace b6:=eq_true b6;have b5:0≤(a3:Int):=zqo;have b7:a3<((rd_L3 l0 a2).length:Int):=zqo;obtain⟨k1,f0,g9⟩:=Kd.at_int c1.out a3 b5 b7
                           cases f0
                           replace b5:=eq_true b5;replace b7:=eq_true b7;have d1:0≤(a3:Int):=zqo;have d3:a3<(l0.length:Int):=zqo;obtain⟨g0,k7,k8,i5,j8,b9,b8⟩:=at_L3 c2.out a3 d1 d3;obtain rfl:d5=g0:=(by injection i5);have d6:=zqm b8;have i7:=zqm b9;clear b8 b9;replace d1:=eq_true d1;replace d3:=eq_true d3;have d2:0≤(a4:Int):=zqo;have d4:a4<((rd_L3 l0 a3).length:Int):=zqo;obtain⟨n0,i6,j9⟩:=Kd.at_int d6.out a4 d2 d4
                           cases i6
                           replace d2:=eq_true d2;replace d4:=eq_true d4;have f3:0≤(a2:Int):=zqo;have f7:a2<(l0.length:Int):=zqo;obtain⟨k6,p3,p7,l7,h0,e0,d8⟩:=at_L3 c2.out a2 f3 f7;obtain rfl:d5=k6:=(by injection l7);have g7:=zqm d8;have o9:=zqm e0;clear d8 e0;replace f3:=eq_true f3;replace f7:=eq_true f7;have ea_:=Option.some.inj (e1.symm.trans h0);injection ea_ with ea_ en_ ec_;subst ea_;subst ec_;clear en_;have f4:0≤(a4:Int):=zqo;have f8:a4<((rd_L3 l0 a2).length:Int):=zqo;obtain⟨p9,l8,p1⟩:=Kd.at_int g7.out a4 f4 f8
                           cases l8
                           replace f4:=eq_true f4;replace f8:=eq_true f8
                           go_wp2
                           go_ret
                           exact⟨zq8,zq9⟩
                         ·rw [if_neg o7] at H;exact absurd H (by simp)
                        ·rw [if_neg i1] at H;have r6:((rd (rd_L3 l0 a3) a4)==1)=false:=beq_eq_false_iff_ne.mpr i1;have r7:((rd (rd_L3 l0 a3) a4) !=1)=true:=bne_iff_ne.mpr i1;have H':=zqm H;clear H;have b4:0≤(a2:Int):=zqo;have b6:a2<(l0.length:Int):=zqo;obtain⟨d5,h4,h6,e9,e1,a8,a7⟩:=at_L3 c2.out a2 b4 b6
                         cases e9
                         have c1:=zqm a7;have g4:=zqm a8;clear a7 a8;replace b4:=eq_true b4;replace b6:=eq_true b6;have b5:0≤(a3:Int):=zqo;have b7:a3<((rd_L3 l0 a2).length:Int):=zqo;obtain⟨k1,f0,g9⟩:=Kd.at_int c1.out a3 b5 b7
                         cases f0
                         replace b5:=eq_true b5;replace b7:=eq_true b7;have d1:0≤(a3:Int):=zqo;have d3:a3<(l0.length:Int):=zqo;obtain⟨g0,k7,k8,i5,j8,b9,b8⟩:=at_L3 c2.out a3 d1 d3;obtain rfl:d5=g0:=(by injection i5);have d6:=zqm b8;have i7:=zqm b9;clear b8 b9;replace d1:=eq_true d1;replace d3:=eq_true d3;have d2:0≤(a4:Int):=zqo;have d4:a4<((rd_L3 l0 a3).length:Int):=zqo;obtain⟨n0,i6,j9⟩:=Kd.at_int d6.out a4 d2 d4
                         cases i6
                         replace d2:=eq_true d2;replace d4:=eq_true d4
                         go_wp2
                         go_roundg k5
                         (case measure=> exact zq55);case rel=>exact⟨(wrap64 (a4+1)),zq8,H',⟨zq55⟩,zq9⟩
                       ·rw [if_neg o6] at H;exact absurd H (by simp)
                      ·rw [if_neg o5] at H;exact absurd H (by simp)
                     ·rw [if_neg o4] at H;exact absurd H (by simp)
                    ·rw [if_neg i0] at H;have r4:((rd (rd_L3 l0 a2) a3)==1)=false:=beq_eq_false_iff_ne.mpr i0;have r5:((rd (rd_L3 l0 a2) a3) !=1)=true:=bne_iff_ne.mpr i0;have H':=zqm H;clear H;have b4:0≤(a2:Int):=zqo;have b6:a2<(l0.length:Int):=zqo;obtain⟨d5,h4,h6,e9,e1,a8,a7⟩:=at_L3 c2.out a2 b4 b6
                     cases e9
                     have c1:=zqm a7;have g4:=zqm a8;clear a7 a8;replace b4:=eq_true b4;replace b6:=eq_true b6;have b5:0≤(a3:Int):=zqo;have b7:a3<((rd_L3 l0 a2).length:Int):=zqo;obtain⟨k1,f0,g9⟩:=Kd.at_int c1.out a3 b5 b7
                     cases f0
                     replace b5:=eq_true b5;replace b7:=eq_true b7
                     go_wp2
                     go_roundg k5
                     (case measure=> exact zq55);case rel=>exact⟨(wrap64 (a4+1)),zq8,H',⟨zq55⟩,zq9⟩
                   ·rw [if_neg o3] at H;exact absurd H (by simp)
                  ·rw [if_neg o2] at H;exact absurd H (by simp)
                 ·rw [if_neg o1] at H;exact absurd H (by simp)
                ·rw [if_neg o0] at H;exact absurd H (by simp)
               ·rw [if_neg j5] at H;have r3:decide (a4<(l0.length:Int))=false:=decide_eq_false j5;clear j5;have H':=zqm H;clear H
                go_wp2
                go_roundg k5
                (case measure=> exact zq55);case rel=>exact⟨(wrap64 (a3+1)),zq8,H',⟨zq55⟩,zq9⟩
            ·rw [if_neg j3] at H;have r2:decide (a3<(l0.length:Int))=false:=decide_eq_false j3;clear j3;have H':=zqm H;clear H
             go_wp2
             go_roundg k4
             (case measure=>have:=b1.out;have:=b2.out;have:=e8.out;have:=b3.out;omega);case rel=>exact⟨(wrap64 (a2+1)),zq8,H',⟨by have:=b1.out;have:=b2.out;have:=e8.out;have:=b3.out;omega⟩,zq9⟩
         ·rw [if_neg j1] at H;have r1:decide (a2<(l0.length:Int))=false:=decide_eq_false j1;clear j1;obtain rfl:=Option.some.inj H
          go_wp2
          go_ret
          exact⟨zq8,zq9⟩
end
section
attribute [local go_sem] max2_int min2_int max_two min_two max_three min_three max_four min_four
def laws_alive.f (k : Nat)  : Option (Bool) := (impl_OrderOk.f k (([(([1] : List Int))] : List (List Int)))).bind fun t174 => (if t174 = true then ((impl_OrderOk.f k (([(([0] : List Int))] : List (List Int)))).bind fun t181 => (some (!t181))) else (some false))
set_option maxHeartbeats 8000000 in
set_option maxRecDepth 100000 in
theorem laws_alive.calls (k : Nat)  (r : Bool) (w : World) (h : laws_alive.f k  = some r) :
  Calls Tryz.prog 8 #[] w fun e w' => e = .returned (.bool r) ∧ Below w.heap.size w w' := by
 have HB:=zqm (Below.refl w.heap.size w);have H:((impl_OrderOk.f k (([(([1]:List Int))]:List (List Int)))).bind fun a5=>(if a5=true then((impl_OrderOk.f k (([(([0]:List Int))]:List (List Int)))).bind fun a2=>(some (!a2))) else(some false)))=some r:=h;clear h;obtain⟨a3,b7⟩: ∃y_:List Int,y_=(([1]:List Int)):=⟨_,rfl⟩;replace H:((impl_OrderOk.f k (([a3]:List (List Int)))).bind fun a5=>(if a5=true then((impl_OrderOk.f k (([(([0]:List Int))]:List (List Int)))).bind fun a2=>(some (!a2))) else(some false)))=some r:=zqy b7 H;have b0:=zqm b7;clear b7;obtain⟨a4,b8⟩: ∃y_:List (List Int),y_=(([a3]:List (List Int))):=⟨_,rfl⟩;replace H:((impl_OrderOk.f k a4).bind fun a5=>(if a5=true then((impl_OrderOk.f k (([(([0]:List Int))]:List (List Int)))).bind fun a2=>(some (!a2))) else(some false)))=some r:=zqy b8 H;have b1:=zqm b8;clear b8;replace H:=Option.bind_eq_some_iff.mp H;obtain⟨a5,d1,H⟩:=H;(try dsimp only at H);have A1:=zqm d1;clear d1
 by_cases c2:a5=true
 ·subst c2;rw [if_pos rfl] at H;obtain⟨a8,b9⟩: ∃y_:List Int,y_=(([0]:List Int)):=⟨_,rfl⟩;replace H:((impl_OrderOk.f k (([a8]:List (List Int)))).bind fun a2=>(some (!a2)))=some r:=zqy b9 H;have c4:=zqm b9;clear b9;obtain⟨d0,c0⟩: ∃y_:List (List Int),y_=(([a8]:List (List Int))):=⟨_,rfl⟩;replace H:((impl_OrderOk.f k d0).bind fun a2=>(some (!a2)))=some r:=zqy c0 H;have c5:=zqm c0;clear c0;replace H:=Option.bind_eq_some_iff.mp H;obtain⟨a2,d2,H⟩:=H;(try dsimp only at H);have A3:=zqm d2;clear d2;obtain rfl:=Option.some.inj H
  go_enter Tryz.func8,Tryz.ntmps8
  go_wp2_with (first|((with_reducible refine gate_dst (N:=1) rfl ?_);(try(refine gate_guard (by rfl) ?_;dsimp only));refine Kd.R_lit (Kd.int .i64) _ 3 ?hg (N:=1) ?hd (xs:=([1]:List Int)) (inner:= [.int .i64 1]) (ok:=fun _=>True) (okp:=fun _=>True) ?hr ?hp (fun _ hk=>hk) trivial (Below.refl _ _) (Nat.le_refl _) (by simp) ?_;(case hd=>rfl);(case hg=>rfl);(case hr=> exact zq16);(case hp=> exact zq122);intro e1 w4 c1 hb hg_ hnew_;clear hg_ hnew_;(first|rw [← b0.out] at c1|(simp only [Int.reduceToNat] at c1;rw [← b0.out] at c1));have a1:=zqm (Kd.R_lower c1 (below_size zq5));replace HB:=zqm (below_step zq5 hb);clear hb c1;obtain⟨d3,d4,e3⟩:=Kd.R_slice a1.out;subst e3)|((with_reducible refine gate_dst (N:=2) rfl ?_);(try(refine gate_guard (by rfl) ?_;dsimp only));refine Kd.N_lit (Kd.slice 3 (Kd.int .i64)) _ 28 ?hg (N':=2) ?hd (xs:=([a3]:List (List Int))) (inner:= [.slice d3 a3.length d4]) (ok:=(fun _=>True)) (okp:=(fun _=>True)) ?hr ?hp (fun _ hk=>hk) ((show∀k_,w4.heap.size≤k_→(fun _=>True) k_ from fun k_ hk=>trivial) _ (Nat.le_refl _)) (Below.refl _ _) (Nat.le_refl _) (by simp) ?_;(case hd=>rfl);(case hg=>rfl);(case hr=> exact zq16);(case hp=>exact(Reps.one (show Kd.FK (Kd.slice 3 (Kd.int .i64)) _ _ a3 [.slice d3 a3.length d4] from (Kd.FK_slice_mk (Kd.R_reads' (Kd.R_mono (ok':=(fun _=>True)) (a1.out) (fun k_ hk=>trivial))).2.1 (Kd.R_F (Kd.R_mono (ok':=(fun _=>True)) (a1.out) (fun k_ hk=>trivial))))) (Reps.none _ _)));intro e2 w7 c3 hb hg_ hnew_;clear hg_ hnew_;(first|rw [← b1.out] at c3|(simp only [Int.reduceToNat] at c3;rw [← b1.out] at c3));have a0:=zqm (Kd.N_lower c3 (below_size zq5));replace HB:=zqm (below_step zq5 hb);clear a1;clear hb c3;obtain⟨b4,b5,e4⟩:=Kd.N_slice a0.out;subst e4)|((with_reducible refine gate_callee (f:=18) rfl ?_);refine goesL_ (some 3) rfl rfl Tryz.func18 zqk rfl #[.slice b4 a4.length b5] rfl zq3 ?_;(with_reducible refine(impl_OrderOk.calls k _ _ a4 true _ ?side1 ?side2 A1.out).mono ?_);(case side1=> exact zq96);(case side2=>exact(Kd.N_reads' a0.out).2.1);rintro e w' ⟨rfl,⟨nd,rfl⟩⟩;refine⟨_,rfl,?_⟩)|((with_reducible refine gate_dst (N:=5) rfl ?_);(try(refine gate_guard (by rfl) ?_;dsimp only));refine Kd.R_lit (Kd.int .i64) _ 3 ?hg (N:=5) ?hd (xs:=([0]:List Int)) (inner:= [.int .i64 0]) (ok:=fun _=>True) (okp:=fun _=>True) ?hr ?hp (fun _ hk=>hk) trivial (Below.refl _ _) (Nat.le_refl _) (by simp) ?_;(case hd=>rfl);(case hg=>rfl);(case hr=> exact zq16);(case hp=>exact(Reps.one (show Kd.M (Kd.int .i64) _ _ _ 0 [.int .i64 0] from rfl) (Reps.none _ _)));intro e9 e5 a6 hb hg_ hnew_;clear hg_ hnew_;(first|rw [← c4.out] at a6|(simp only [Int.reduceToNat] at a6;rw [← c4.out] at a6));replace a0:=zqm (Kd.N_elder' zq102 (Kd.R_base a6) hb);have a9:=zqm (Kd.R_lower a6 (below_size zq5));replace HB:=zqm (below_step zq5 hb);clear hb a6;obtain⟨c6,c8,d7⟩:=Kd.R_slice a9.out;subst d7)|((with_reducible refine gate_dst (N:=6) rfl ?_);(try(refine gate_guard (by rfl) ?_;dsimp only));refine Kd.N_lit (Kd.slice 3 (Kd.int .i64)) _ 28 ?hg (N':=6) ?hd (xs:=([a8]:List (List Int))) (inner:= [.slice c6 a8.length c8]) (ok:=(fun k_=>some k_≠(.slice b4 a4.length b5:Value).ownBlock)) (okp:=(fun k_=>some k_≠(.slice b4 a4.length b5:Value).ownBlock)) ?hr ?hp (fun _ hk=>hk) ((show∀k_,e5.heap.size≤k_→(fun k_=>some k_≠(.slice b4 a4.length b5:Value).ownBlock) k_ from fun k_ hk=>Kd.fresh' (Kd.N_lt zq102) k_ hk) _ (Nat.le_refl _)) (Below.refl _ _) (Nat.le_refl _) (by simp) ?_;(case hd=>rfl);(case hg=>rfl);(case hr=> exact zq16);(case hp=>exact(Reps.one (show Kd.FK (Kd.slice 3 (Kd.int .i64)) _ _ a8 [.slice c6 a8.length c8] from (Kd.FK_slice_mk (Kd.R_reads' (Kd.R_mono (ok':=(fun k_=>some k_≠(.slice b4 a4.length b5:Value).ownBlock)) (Kd.R_apart' (a9.out) (Kd.N_typed a0.out) (by decide)) (fun k_ hk=>hk.2))).2.1 (Kd.R_F (Kd.R_mono (ok':=(fun k_=>some k_≠(.slice b4 a4.length b5:Value).ownBlock)) (Kd.R_apart' (a9.out) (Kd.N_typed a0.out) (by decide)) (fun k_ hk=>hk.2))))) (Reps.none _ _)));intro f0 f1 a7 hb hg_ hnew_;clear hg_ hnew_;(first|rw [← c5.out] at a7|(simp only [Int.reduceToNat] at a7;rw [← c5.out] at a7));replace a0:=zqm (Kd.N_elder' zq102 (Kd.N_base a7) hb);have b6:=zqm (Kd.N_lower a7 (below_size zq5));replace HB:=zqm (below_step zq5 hb);clear a9;clear hb a7;obtain⟨e7,e8,d8⟩:=Kd.N_slice b6.out;subst d8)|(go_at_call 18;(with_reducible refine(impl_OrderOk.calls k _ _ d0 a2 _ ?side1 ?side2 A3.out).mono ?_);(case side1=>repeat(first|exact(Kd.N_reads' b6.out).2.2|(with_reducible refine Kd.C_alloc ?_ _)|(with_reducible refine Kd.C_drewN ?_ _)|(with_reducible refine Kd.C_drew ?_)));(case side2=>exact(Kd.N_reads' b6.out).2.1);rintro e w' ⟨rfl,⟨nd,rfl⟩⟩))
  go_ret
  exact⟨zq18,zq5⟩
 ·replace c2:=Bool.eq_false_iff.mpr c2;subst c2;rw [if_neg (show¬(false=true) by decide)] at H;obtain rfl:=Option.some.inj H
  go_enter Tryz.func8,Tryz.ntmps8
  go_wp2_with (first|((with_reducible refine gate_dst (N:=1) rfl ?_);(try(refine gate_guard (by rfl) ?_;dsimp only));refine Kd.R_lit (Kd.int .i64) _ 3 ?hg (N:=1) ?hd (xs:=([1]:List Int)) (inner:= [.int .i64 1]) (ok:=fun _=>True) (okp:=fun _=>True) ?hr ?hp (fun _ hk=>hk) trivial (Below.refl _ _) (Nat.le_refl _) (by simp) ?_;(case hd=>rfl);(case hg=>rfl);(case hr=> exact zq16);(case hp=> exact zq122);intro e1 e6 b2 hb hg_ hnew_;clear hg_ hnew_;(first|rw [← b0.out] at b2|(simp only [Int.reduceToNat] at b2;rw [← b0.out] at b2));have a1:=zqm (Kd.R_lower b2 (below_size zq5));replace HB:=zqm (below_step zq5 hb);clear hb b2;obtain⟨c7,c9,d9⟩:=Kd.R_slice a1.out;subst d9)|((with_reducible refine gate_dst (N:=2) rfl ?_);(try(refine gate_guard (by rfl) ?_;dsimp only));refine Kd.N_lit (Kd.slice 3 (Kd.int .i64)) _ 28 ?hg (N':=2) ?hd (xs:=([a3]:List (List Int))) (inner:= [.slice c7 a3.length c9]) (ok:=(fun _=>True)) (okp:=(fun _=>True)) ?hr ?hp (fun _ hk=>hk) ((show∀k_,e6.heap.size≤k_→(fun _=>True) k_ from fun k_ hk=>trivial) _ (Nat.le_refl _)) (Below.refl _ _) (Nat.le_refl _) (by simp) ?_;(case hd=>rfl);(case hg=>rfl);(case hr=> exact zq16);(case hp=>exact(Reps.one (show Kd.FK (Kd.slice 3 (Kd.int .i64)) _ _ a3 [.slice c7 a3.length c9] from (Kd.FK_slice_mk (Kd.R_reads' (Kd.R_mono (ok':=(fun _=>True)) (a1.out) (fun k_ hk=>trivial))).2.1 (Kd.R_F (Kd.R_mono (ok':=(fun _=>True)) (a1.out) (fun k_ hk=>trivial))))) (Reps.none _ _)));intro e2 f2 b3 hb hg_ hnew_;clear hg_ hnew_;(first|rw [← b1.out] at b3|(simp only [Int.reduceToNat] at b3;rw [← b1.out] at b3));have a0:=zqm (Kd.N_lower b3 (below_size zq5));replace HB:=zqm (below_step zq5 hb);clear a1;clear hb b3;obtain⟨d5,d6,e0⟩:=Kd.N_slice a0.out;subst e0)|((with_reducible refine gate_callee (f:=18) rfl ?_);refine goesL_ (some 3) rfl rfl Tryz.func18 zqk rfl #[.slice d5 a4.length d6] rfl zq3 ?_;(with_reducible refine(impl_OrderOk.calls k _ _ a4 false _ ?side1 ?side2 A1.out).mono ?_);(case side1=> exact zq96);(case side2=>exact(Kd.N_reads' a0.out).2.1);rintro e w' ⟨rfl,⟨nd,rfl⟩⟩;refine⟨_,rfl,?_⟩))
  go_ret
  exact⟨zq18,zq5⟩
end
section
attribute [local go_sem] max2_int min2_int max_two min_two max_three min_three max_four min_four
def IsS57 (w0 W : World) (g : Nat) (f0 : List Int) (f1 : Int) : Prop := ∃ A0 c0, W.heap[g]? = some (.cells #[.slice A0 f0.length c0, .int .i64 f1] 57 (0, 0)) ∧ w0.heap.size ≤ g ∧ Kd.C (Kd.int .u8) w0 A0 f0.length f0
theorem IsS57.grown {w0 W : World} {g : Nat} {f0 : List Int} {f1 : Int} {W1 : World} {row : Option Nat} (h : IsS57 w0 W g f0 f1) (hw : W.grownBy W1 row) (hne : some g ≠ row) : IsS57 w0 W1 g f0 f1 := by
 obtain ⟨A0, c0, hb, hg, hr0⟩ := h
 exact ⟨A0, c0, blk_grown hb hw hne, hg, hr0⟩
theorem IsS57.kept {w0 W : World} {g : Nat} {f0 : List Int} {f1 : Int} {W1 : World} {S : Nat → Prop} (h : IsS57 w0 W g f0 f1) (hk : Kept W W1 S) (hne : ¬ S g) : IsS57 w0 W1 g f0 f1 := by
 obtain ⟨A0, c0, hb, hg, hr0⟩ := h
 exact ⟨A0, c0, blk_kept hb hk hne, hg, hr0⟩
theorem IsS57.below {w0 W : World} {g : Nat} {f0 : List Int} {f1 : Int} {W1 : World} (h : IsS57 w0 W g f0 f1) (hw : Below W.heap.size W W1) : IsS57 w0 W1 g f0 f1 := h.grown (grown_of_below hw none) (by simp)
theorem IsS57.alloc {w0 W : World} {g : Nat} {f0 : List Int} {f1 : Int} (h : IsS57 w0 W g f0 f1) (o : Obj) : IsS57 w0 (W.alloc o) g f0 f1 := h.below (below_alloc (Below.refl _ _) o)
theorem IsS57.drewN {w0 W : World} {g : Nat} {f0 : List Int} {f1 : Int} (h : IsS57 w0 W g f0 f1) (m : Nat) : IsS57 w0 (W.drewN m) g f0 f1 := h
theorem IsS57.drew {w0 W : World} {g : Nat} {f0 : List Int} {f1 : Int} (h : IsS57 w0 W g f0 f1) : IsS57 w0 W.drew g f0 f1 := h
theorem IsS57.apart {w0 W : World} {g : Nat} {f0 : List Int} {f1 : Int} {α : Type} {d : Kd α} {e : Nat} {base : Nat} {ok : Nat → Prop} {v : Value} {xs : List α} (h : IsS57 w0 W g f0 f1) (ho : d.R e W base ok v xs) (ht : ∀ q, q ∈ e :: d.E → q ≠ 57) : d.R e W base (fun k => ok k ∧ k ≠ g) v xs := by
 obtain ⟨A0, c0, hb, hg, hr0⟩ := h
 exact Kd.R_types ho hb ht
theorem IsS57.own_ne {w0 W : World} {g : Nat} {f0 : List Int} {f1 : Int} {α : Type} {d : Kd α} {e : Nat} {base : Nat} {ok : Nat → Prop} {v : Value} {xs : List α} (h : IsS57 w0 W g f0 f1) (ho : d.R e W base ok v xs) (ht : e ≠ 57) : some g ≠ v.ownBlock := by
 obtain ⟨A0, c0, hb, hg, hr0⟩ := h
 exact Kd.R_ne ho hb ht
theorem IsS57.apartQ {w0 W : World} {g : Nat} {f0 : List Int} {f1 : Int} {α : Type} {d : Kd α} {e : Nat} {base : Nat} {ok : Nat → Prop} {v : Value} {xs : List α} (h : IsS57 w0 W g f0 f1) (ho : d.Q e W base ok v xs) (ht : ∀ q, q ∈ e :: d.E → q ≠ 57) : d.Q e W base (fun k => ok k ∧ k ≠ g) v xs := by
 obtain ⟨A0, c0, hb, hg, hr0⟩ := h
 exact Kd.Q_types ho hb ht
theorem IsS57.own_neQ {w0 W : World} {g : Nat} {f0 : List Int} {f1 : Int} {α : Type} {d : Kd α} {e : Nat} {base : Nat} {ok : Nat → Prop} {v : Value} {xs : List α} (h : IsS57 w0 W g f0 f1) (ho : d.Q e W base ok v xs) (ht : e ≠ 57) : some g ≠ v.ownBlock := by
 obtain ⟨A0, c0, hb, hg, hr0⟩ := h
 exact Kd.Q_ne ho hb ht
theorem IsS57.apartS {w0 W : World} {g : Nat} {f0 : List Int} {f1 : Int} {α : Type} {d : Kd α} {e : Nat} {base : Nat} {ok : Nat → Prop} {v : Value} {xs : List α} (h : IsS57 w0 W g f0 f1) (ho : d.S e W base ok v xs) (ht : ∀ q, q ∈ e :: d.E → q ≠ 57) : d.S e W base (fun k => ok k ∧ k ≠ g) v xs := by
 obtain ⟨A0, c0, hb, hg, hr0⟩ := h
 exact Kd.S_types ho hb ht
theorem IsS57.lt {w0 W : World} {g : Nat} {f0 : List Int} {f1 : Int} (h : IsS57 w0 W g f0 f1) : g < W.heap.size := by
 obtain ⟨A0, c0, hb, hg, hr0⟩ := h
 exact blk_lt hb
theorem IsS57.ge {w0 W : World} {g : Nat} {f0 : List Int} {f1 : Int} (h : IsS57 w0 W g f0 f1) : w0.heap.size ≤ g := by
 obtain ⟨A0, c0, hb, hg, hr0⟩ := h
 exact hg
theorem IsS57.ne_blk {w0 W : World} {g : Nat} {f0 : List Int} {f1 : Int} {a : Nat} {cs : Array Value} {t : TypeId} {fr : Nat × Nat} (h : IsS57 w0 W g f0 f1) (hb2 : W.heap[a]? = some (.cells cs t fr)) (ht : t ≠ 57) : g ≠ a := by
 obtain ⟨A0, c0, hb, hg, hr0⟩ := h
 rintro rfl
 rw [hb] at hb2
 injection hb2 with hb2
 injection hb2 with _ ht2
 exact ht ht2.symm
theorem IsS57.far {w0 W : World} {g : Nat} {f0 : List Int} {f1 : Int} {p : Addr} (h : IsS57 w0 W g f0 f1) (hne : g ≠ p.block) (u : Value) : IsS57 w0 (W.setCell p u) g f0 f1 := by
 obtain ⟨A0, c0, hb, hg, hr0⟩ := h
 exact ⟨A0, c0, blk_far hb hne u, hg, hr0⟩
theorem cellS57_0 {W : World} {g : Nat} {A0 : Option Addr} {c0 : Nat} {f0 : List Int} {f1 : Int} (h : W.heap[g]? = some (.cells #[.slice A0 f0.length c0, .int .i64 f1] 57 (0, 0))) : W.cell? ⟨g, 0, none⟩ = some (.slice A0 f0.length c0) := (blk_cell h 0).trans rfl
theorem cellS57_1 {W : World} {g : Nat} {A0 : Option Addr} {c0 : Nat} {f0 : List Int} {f1 : Int} (h : W.heap[g]? = some (.cells #[.slice A0 f0.length c0, .int .i64 f1] 57 (0, 0))) : W.cell? ⟨g, 1, none⟩ = some (.int .i64 f1) := (blk_cell h 1).trans rfl
theorem IsS57.set_1 {w0 W : World} {g : Nat} {f0 : List Int} {f1 : Int} (h : IsS57 w0 W g f0 f1) (x : Int) : IsS57 w0 (W.setCell ⟨g, 1, none⟩ (.int .i64 x)) g f0 x := by
 obtain ⟨A0, c0, hb, hg, hr0⟩ := h
 exact ⟨A0, c0, by simpa using blk_set hb 1 (.int .i64 x), hg, hr0⟩
def spec_l20Rd_pick.j0 : Nat → Int → Bool → List Int → Int → Option (Int × Int)
 | 0, _, _, _, _ => none
 | k + 1, x1, x24, x1000, x1001 => if x24 = true then (some (0, x1001)) else (if (wrap64 (x1001 - 1)) < (x1000.length : Int) then (if 0 ≤ (wrap64 (x1001 - 1)) then (if x1 = 0 then (none) else (some (Int.tmod (wrap64 (rd x1000 (wrap64 (x1001 - 1)))) x1, x1001))) else (none)) else (if (x1000.length : Int) = 0 then (none) else (if 0 ≤ (Int.tmod (wrap64 (x1001 - 1)) (x1000.length : Int)) then (if (Int.tmod (wrap64 (x1001 - 1)) (x1000.length : Int)) < (x1000.length : Int) then (if 0 ≤ (Int.tmod (wrap64 ((wrap64 ((wrap64 (x1001 - 1)) * 7)) + 3)) (x1000.length : Int)) then (if (Int.tmod (wrap64 ((wrap64 ((wrap64 (x1001 - 1)) * 7)) + 3)) (x1000.length : Int)) < (x1000.length : Int) then (if x1 = 0 then (none) else (some (Int.tmod (Go.bits .xor .i64 (wrap64 ((wrap64 ((wrap64 ((wrap64 ((wrap64 (rd x1000 (Int.tmod (wrap64 (x1001 - 1)) (x1000.length : Int)))) * 131)) + (wrap64 ((wrap64 (rd x1000 (Int.tmod (wrap64 ((wrap64 ((wrap64 (x1001 - 1)) * 7)) + 3)) (x1000.length : Int)))) * 1117)))) + (wrap64 ((wrap64 (x1001 - 1)) * 29)))) + (wrap64 ((wrap64 (Int.tdiv (wrap64 (x1001 - 1)) (x1000.length : Int))) * 53)))) (wrap64 (Int.tdiv (wrap64 ((wrap64 ((wrap64 ((wrap64 ((wrap64 (rd x1000 (Int.tmod (wrap64 (x1001 - 1)) (x1000.length : Int)))) * 131)) + (wrap64 ((wrap64 (rd x1000 (Int.tmod (wrap64 ((wrap64 ((wrap64 (x1001 - 1)) * 7)) + 3)) (x1000.length : Int)))) * 1117)))) + (wrap64 ((wrap64 (x1001 - 1)) * 29)))) + (wrap64 ((wrap64 (Int.tdiv (wrap64 (x1001 - 1)) (x1000.length : Int))) * 53)))) 64))) x1, x1001))) else (none)) else (none)) else (none)) else (none))))
def spec_l20Rd_pick.f (k : Nat) (s0_0 : List Int) (s0_1 : Int) (a1 : Int) : Option (Int × Int) := if a1 < 1 then (spec_l20Rd_pick.j0 k a1 true s0_0 (wrap64 (s0_1 + 1))) else (spec_l20Rd_pick.j0 k a1 ((s0_0.length : Int) == 0) s0_0 (wrap64 (s0_1 + 1)))
set_option maxHeartbeats 8000000 in
set_option maxRecDepth 100000 in
theorem spec_l20Rd_pick.calls (k : Nat) (g : Nat) (s0_0 : List Int) (s0_1 : Int) (a1 : Int) (r1 : Int) (r2 : Int) (w0 w : World) (hI : IsS57 w0 w g s0_0 s0_1) (hB : Below w0.heap.size w0 w) (h : spec_l20Rd_pick.f k s0_0 s0_1 a1 = some (r1, r2)) :
  Calls Tryz.prog 24 #[.pointer (some ⟨g, 0, none⟩), .int .i64 a1] w fun e w' => e = .returned (.int .i64 r1) ∧ IsS57 w0 w' g s0_0 r2 ∧ Below w0.heap.size w0 w' ∧ KeepBut w w' g none := by
 have a0:=zqm hI;have HK:=zqm (KeepBut.refl w g none);have HL:=zqm hB.size;clear hI;have g5:=zqm hB.size;have HB:=zqm hB;clear hB;have H:(if a1<1 then(spec_l20Rd_pick.j0 k a1 true s0_0 (wrap64 (s0_1+1))) else(spec_l20Rd_pick.j0 k a1 ((s0_0.length:Int)==0) s0_0 (wrap64 (s0_1+1))))=some (r1,r2):=h;clear h;have d0:=zqm H;clear H;obtain⟨ASz4_0,cSz4_0,HGz4,hgz4,HSz4_0⟩:=a0.out;have e3:=cellS57_0 HGz4;have e4:=cellS57_1 HGz4;have e7:=blk_frozen HGz4 1;clear HGz4 hgz4
 go_enter Tryz.func24,Tryz.ntmps24
 go_upto_region 2 with (fail)
 repeat(go_quiet (fail);go_upto_region 2 with (fail))
 go_cut [24] (fun e9 wc=> ∃(kq:Nat) (a5:Bool),e9= .bool a5∧Aside0 (spec_l20Rd_pick.j0 kq a1 a5 s0_0 (wrap64 (s0_1+1))=some (r1,r2))∧Aside0 (kq≤k)∧Aside0 (IsS57 w0 wc g s0_0 (wrap64 (s0_1+1)))∧Aside0 (KeepBut w wc g none)∧Aside0 (Below w0.heap.size w0 wc))
 case first=>
  have H:=d0.out;clear d0
  by_cases c5:a1<1
  ·rw [if_pos c5] at H;have a6:decide (a1<1)=true:=decide_eq_true c5;clear c5;(first|rw [a6]|(simp only [i64_w,i32_w];rw [a6])|skip);have H':=zqm H;clear H
   go_wp2
   repeat(go_quiet (fail);try go_wp2)
   go_meet
   case rel=>exact⟨_,(true),zq8,H',⟨zq52⟩,⟨zq10⟩,⟨zq7⟩,⟨zq11⟩⟩
  ·rw [if_neg c5] at H;have a6:decide (a1<1)=false:=decide_eq_false c5;clear c5;(first|rw [a6]|(simp only [i64_w,i32_w];rw [a6])|skip);have H':=zqm H;clear H;obtain⟨ASz6_0,cSz6_0,HGz6,hgz6,HSz6_0⟩:=a0.out;have e5:=cellS57_0 HGz6;have e6:=cellS57_1 HGz6;have e8:=blk_frozen HGz6 1;clear HGz6 hgz6
   go_wp2
   repeat(go_quiet (fail);try go_wp2)
   go_meet
   case rel=>exact⟨_,(((s0_0.length:Int)==0)),zq8,H',⟨zq52⟩,⟨zq10⟩,⟨zq7⟩,⟨zq11⟩⟩
 case rest=>
  clear d0;obtain⟨kq,a5,rfl,HA,g4,a0,HK,HB⟩:=hcut
  cases kq with
  |zero=>exact absurd HA.out (by simp [spec_l20Rd_pick.j0])
  |succ g6=>
   have H:=HA.out;clear HA;simp only [spec_l20Rd_pick.j0] at H
   by_cases c7:a5=true
   ·subst c7;(have H1:(some (0,(wrap64 (s0_1+1))))=some (r1,r2):=by rw [if_pos rfl] at H;exact H);clear H;have H:=H1;clear H1;simp only [Option.some.injEq,Prod.mk.injEq] at H;obtain⟨rfl,rfl⟩:=H
    go_wp2
    repeat(go_quiet (fail);try go_wp2)
    go_ret
    exact⟨zq18,zq10,zq11,zq7⟩
   ·replace c7:=Bool.eq_false_iff.mpr c7;subst c7;(have H1:(if(wrap64 ((wrap64 (s0_1+1)) - 1))<(s0_0.length:Int) then(if 0≤(wrap64 ((wrap64 (s0_1+1)) - 1)) then(if a1=0 then(none) else(some (Int.tmod (wrap64 (rd s0_0 (wrap64 ((wrap64 (s0_1+1)) - 1)))) a1,(wrap64 (s0_1+1))))) else(none)) else(if(s0_0.length:Int)=0 then(none) else(if 0≤(Int.tmod (wrap64 ((wrap64 (s0_1+1)) - 1)) (s0_0.length:Int)) then(if(Int.tmod (wrap64 ((wrap64 (s0_1+1)) - 1)) (s0_0.length:Int))<(s0_0.length:Int) then(if 0≤(Int.tmod (wrap64 ((wrap64 ((wrap64 ((wrap64 (s0_1+1)) - 1))*7))+3)) (s0_0.length:Int)) then(if(Int.tmod (wrap64 ((wrap64 ((wrap64 ((wrap64 (s0_1+1)) - 1))*7))+3)) (s0_0.length:Int))<(s0_0.length:Int) then(if a1=0 then(none) else(some (Int.tmod (Go.bits .xor .i64 (wrap64 ((wrap64 ((wrap64 ((wrap64 ((wrap64 (rd s0_0 (Int.tmod (wrap64 ((wrap64 (s0_1+1)) - 1)) (s0_0.length:Int))))*131))+(wrap64 ((wrap64 (rd s0_0 (Int.tmod (wrap64 ((wrap64 ((wrap64 ((wrap64 (s0_1+1)) - 1))*7))+3)) (s0_0.length:Int))))*1117))))+(wrap64 ((wrap64 ((wrap64 (s0_1+1)) - 1))*29))))+(wrap64 ((wrap64 (Int.tdiv (wrap64 ((wrap64 (s0_1+1)) - 1)) (s0_0.length:Int)))*53)))) (wrap64 (Int.tdiv (wrap64 ((wrap64 ((wrap64 ((wrap64 ((wrap64 (rd s0_0 (Int.tmod (wrap64 ((wrap64 (s0_1+1)) - 1)) (s0_0.length:Int))))*131))+(wrap64 ((wrap64 (rd s0_0 (Int.tmod (wrap64 ((wrap64 ((wrap64 ((wrap64 (s0_1+1)) - 1))*7))+3)) (s0_0.length:Int))))*1117))))+(wrap64 ((wrap64 ((wrap64 (s0_1+1)) - 1))*29))))+(wrap64 ((wrap64 (Int.tdiv (wrap64 ((wrap64 (s0_1+1)) - 1)) (s0_0.length:Int)))*53)))) 64))) a1,(wrap64 (s0_1+1))))) else(none)) else(none)) else(none)) else(none))))=some (r1,r2):=by rw [if_neg (show¬(false=true) by decide)] at H;exact H);clear H;have H:=H1;clear H1
    by_cases c8:(wrap64 ((wrap64 (s0_1+1)) - 1))<(s0_0.length:Int)
    ·rw [if_pos c8] at H;have d1:decide ((wrap64 ((wrap64 (s0_1+1)) - 1))<(s0_0.length:Int))=true:=decide_eq_true c8;clear c8;obtain⟨a4,a7⟩: ∃j_:Int,(wrap64 ((wrap64 (s0_1+1)) - 1))=j_:=⟨_,rfl⟩;(replace H:(if 0≤(a4) then(if a1=0 then(none) else(some (Int.tmod (wrap64 (rd s0_0 (a4))) a1,(wrap64 (s0_1+1))))) else(none))=some (r1,r2):=by first|(rw [a7] at H;exact H)|(simp only [a7] at H ⊢;exact H));(try rw [a7] at d1);have g3:(IntKind.i64.wrap ((wrap64 (s0_1+1)) - 1))=a4:=(i64_w _).trans a7
     by_cases c0:0≤(a4)
     ·rw [if_pos c0] at H;have f1:decide (0≤(a4))=true:=decide_eq_true c0;clear c0
      by_cases c1:a1=0
      ·rw [if_pos c1] at H;exact absurd H (by simp)
      ·rw [if_neg c1] at H;have f2:(a1==0)=false:=beq_eq_false_iff_ne.mpr c1;have f3:(a1 !=0)=true:=bne_iff_ne.mpr c1;simp only [Option.some.injEq,Prod.mk.injEq] at H;obtain⟨rfl,rfl⟩:=H;obtain⟨ASz12_0,cSz12_0,HGz12,hgz12,HSz12_0⟩:=a0.out;have d7:=cellS57_0 HGz12;have d8:=cellS57_1 HGz12;have e1:=blk_frozen HGz12 1;clear HGz12 hgz12;have b4:0≤((a4):Int):=zqo;have b7:(a4)<(s0_0.length:Int):=zqo;obtain⟨f0,d4,a8⟩:=Kd.at_int HSz12_0 (a4) b4 b7
       cases d4
       replace a8:=pw_cell_below HB.out a8;replace b4:=eq_true b4;replace b7:=eq_true b7
       go_wp2
       repeat(go_quiet (fail);try go_wp2)
       go_ret
       exact⟨by first|rfl|(simp [errW_none,errW_some] <;> rfl)|(simp only [← a7];first|rfl|(simp [errW_none,errW_some] <;> rfl))|(simp [*,errW_none,errW_some] <;> rfl),zq10,zq11,zq7⟩
     ·rw [if_neg c0] at H;exact absurd H (by simp)
    ·rw [if_neg c8] at H;have d1:decide ((wrap64 ((wrap64 (s0_1+1)) - 1))<(s0_0.length:Int))=false:=decide_eq_false c8;clear c8
     by_cases b3:(s0_0.length:Int)=0
     ·rw [if_pos b3] at H;exact absurd H (by simp)
     ·rw [if_neg b3] at H;have f4:((s0_0.length:Int)==0)=false:=beq_eq_false_iff_ne.mpr b3;have f5:((s0_0.length:Int) !=0)=true:=bne_iff_ne.mpr b3;have f6: ¬(s0_0= []):=fun h_=>b3 (by rw [h_];rfl);obtain⟨a2,b1⟩: ∃j_:Int,(Int.tmod (wrap64 ((wrap64 (s0_1+1)) - 1)) (s0_0.length:Int))=j_:=⟨_,rfl⟩;replace H:(if 0≤(a2) then(if(a2)<(s0_0.length:Int) then(if 0≤(Int.tmod (wrap64 ((wrap64 ((wrap64 ((wrap64 (s0_1+1)) - 1))*7))+3)) (s0_0.length:Int)) then(if(Int.tmod (wrap64 ((wrap64 ((wrap64 ((wrap64 (s0_1+1)) - 1))*7))+3)) (s0_0.length:Int))<(s0_0.length:Int) then(if a1=0 then(none) else(some (Int.tmod (Go.bits .xor .i64 (wrap64 ((wrap64 ((wrap64 ((wrap64 ((wrap64 (rd s0_0 (a2)))*131))+(wrap64 ((wrap64 (rd s0_0 (Int.tmod (wrap64 ((wrap64 ((wrap64 ((wrap64 (s0_1+1)) - 1))*7))+3)) (s0_0.length:Int))))*1117))))+(wrap64 ((wrap64 ((wrap64 (s0_1+1)) - 1))*29))))+(wrap64 ((wrap64 (Int.tdiv (wrap64 ((wrap64 (s0_1+1)) - 1)) (s0_0.length:Int)))*53)))) (wrap64 (Int.tdiv (wrap64 ((wrap64 ((wrap64 ((wrap64 ((wrap64 (rd s0_0 (a2)))*131))+(wrap64 ((wrap64 (rd s0_0 (Int.tmod (wrap64 ((wrap64 ((wrap64 ((wrap64 (s0_1+1)) - 1))*7))+3)) (s0_0.length:Int))))*1117))))+(wrap64 ((wrap64 ((wrap64 (s0_1+1)) - 1))*29))))+(wrap64 ((wrap64 (Int.tdiv (wrap64 ((wrap64 (s0_1+1)) - 1)) (s0_0.length:Int)))*53)))) 64))) a1,(wrap64 (s0_1+1))))) else(none)) else(none)) else(none)) else(none))=some (r1,r2):=by first|(rw [b1] at H;exact H)|(simp only [b1] at H ⊢;exact H)
      by_cases c2:0≤(a2)
      ·rw [if_pos c2] at H;have f7:decide (0≤(a2))=true:=decide_eq_true c2;clear c2
       by_cases c3:(a2)<(s0_0.length:Int)
       ·rw [if_pos c3] at H;have f8:decide ((a2)<(s0_0.length:Int))=true:=decide_eq_true c3;clear c3;obtain⟨a3,b2⟩: ∃j_:Int,(Int.tmod (wrap64 ((wrap64 ((wrap64 ((wrap64 (s0_1+1)) - 1))*7))+3)) (s0_0.length:Int))=j_:=⟨_,rfl⟩;replace H:(if 0≤(a3) then(if(a3)<(s0_0.length:Int) then(if a1=0 then(none) else(some (Int.tmod (Go.bits .xor .i64 (wrap64 ((wrap64 ((wrap64 ((wrap64 ((wrap64 (rd s0_0 (a2)))*131))+(wrap64 ((wrap64 (rd s0_0 (a3)))*1117))))+(wrap64 ((wrap64 ((wrap64 (s0_1+1)) - 1))*29))))+(wrap64 ((wrap64 (Int.tdiv (wrap64 ((wrap64 (s0_1+1)) - 1)) (s0_0.length:Int)))*53)))) (wrap64 (Int.tdiv (wrap64 ((wrap64 ((wrap64 ((wrap64 ((wrap64 (rd s0_0 (a2)))*131))+(wrap64 ((wrap64 (rd s0_0 (a3)))*1117))))+(wrap64 ((wrap64 ((wrap64 (s0_1+1)) - 1))*29))))+(wrap64 ((wrap64 (Int.tdiv (wrap64 ((wrap64 (s0_1+1)) - 1)) (s0_0.length:Int)))*53)))) 64))) a1,(wrap64 (s0_1+1))))) else(none)) else(none))=some (r1,r2):=by first|(rw [b2] at H;exact H)|(simp only [b2] at H ⊢;exact H)
        by_cases c4:0≤(a3)
        ·rw [if_pos c4] at H;have f9:decide (0≤(a3))=true:=decide_eq_true c4;clear c4
         by_cases c6:(a3)<(s0_0.length:Int)
         ·rw [if_pos c6] at H;have g0:decide ((a3)<(s0_0.length:Int))=true:=decide_eq_true c6;clear c6
          by_cases c9:a1=0
          ·rw [if_pos c9] at H;exact absurd H (by simp)
          ·rw [if_neg c9] at H;have g1:(a1==0)=false:=beq_eq_false_iff_ne.mpr c9;have g2:(a1 !=0)=true:=bne_iff_ne.mpr c9;simp only [Option.some.injEq,Prod.mk.injEq] at H;obtain⟨rfl,rfl⟩:=H;obtain⟨ASz21_0,cSz21_0,HGz21,hgz21,HSz21_0⟩:=a0.out;have d9:=cellS57_0 HGz21;have e0:=cellS57_1 HGz21;have e2:=blk_frozen HGz21 1;clear HGz21 hgz21;have b5:0≤((a2):Int):=zqo;have b8:(a2)<(s0_0.length:Int):=zqo;obtain⟨d2,d5,a9⟩:=Kd.at_int HSz21_0 (a2) b5 b8
           cases d5
           replace a9:=pw_cell_below HB.out a9;replace b5:=eq_true b5;replace b8:=eq_true b8;have b6:0≤((a3):Int):=zqo;have b9:(a3)<(s0_0.length:Int):=zqo;obtain⟨d3,d6,b0⟩:=Kd.at_int HSz21_0 (a3) b6 b9;obtain rfl:d2=d3:=(by injection d6);replace b0:=pw_cell_below HB.out b0;replace b6:=eq_true b6;replace b9:=eq_true b9
           go_wp2
           repeat(go_quiet (fail);try go_wp2)
           go_ret
           exact⟨by first|rfl|(simp [errW_none,errW_some] <;> rfl)|(simp only [← b1,← b2];first|rfl|(simp [errW_none,errW_some] <;> rfl))|(simp [*,errW_none,errW_some] <;> rfl),zq10,zq11,zq7⟩
         ·rw [if_neg c6] at H;exact absurd H (by simp)
        ·rw [if_neg c4] at H;exact absurd H (by simp)
       ·rw [if_neg c3] at H;exact absurd H (by simp)
      ·rw [if_neg c2] at H;exact absurd H (by simp)
end
section
attribute [local go_sem] max2_int min2_int max_two min_two max_three min_three max_four min_four
mutual
def spec_l20Formula.j0 : Nat → Int → Bool → List Int → Int → Option (ByteArray × Int)
 | 0, _, _, _, _ => none
 | k + 1, x1, x11, x1000, x1001 => if x11 = true then ((some (([(⟨#[97]⟩ : ByteArray), (⟨#[98]⟩ : ByteArray), (⟨#[97]⟩ : ByteArray), (⟨#[98]⟩ : ByteArray), (⟨#[99]⟩ : ByteArray), (⟨#[49]⟩ : ByteArray), (⟨#[48]⟩ : ByteArray)] : List ByteArray) : List ByteArray)).bind fun y106 => ((spec_l20Rd_pick.f k x1000 x1001 7).bind fun bt109 => (if 0 ≤ bt109.1 then (if bt109.1 < (y106.length : Int) then (some (rdOf ByteArray.empty y106 bt109.1, bt109.2)) else (none)) else (none)))) else ((spec_l20Rd_pick.f k x1000 x1001 3).bind fun bt112 => (if bt112.1 = 0 then ((spec_l20Formula.f k x1000 bt112.2 (wrap64 (x1 - 1))).bind fun bt114 => (if 1 + bt114.1.size ≤ 9223372036854775807 then (some ((⟨#[33]⟩ : ByteArray) ++ bt114.1, bt114.2)) else (none))) else ((spec_l20Formula.f k x1000 bt112.2 (wrap64 (x1 - 1))).bind fun bt116 => (if 1 + bt116.1.size ≤ 9223372036854775807 then ((some (([(⟨#[38]⟩ : ByteArray), (⟨#[124]⟩ : ByteArray)] : List ByteArray) : List ByteArray)).bind fun y118 => ((spec_l20Rd_pick.f k x1000 bt116.2 2).bind fun bt121 => (if 0 ≤ bt121.1 then (if bt121.1 < (y118.length : Int) then (if ((⟨#[40]⟩ : ByteArray) ++ bt116.1).size + (rdOf ByteArray.empty y118 bt121.1).size ≤ 9223372036854775807 then ((spec_l20Formula.f k x1000 bt121.2 (wrap64 (x1 - 1))).bind fun bt124 => (if (((⟨#[40]⟩ : ByteArray) ++ bt116.1) ++ (rdOf ByteArray.empty y118 bt121.1)).size + bt124.1.size ≤ 9223372036854775807 then (if ((((⟨#[40]⟩ : ByteArray) ++ bt116.1) ++ (rdOf ByteArray.empty y118 bt121.1)) ++ bt124.1).size + 1 ≤ 9223372036854775807 then (some (((((⟨#[40]⟩ : ByteArray) ++ bt116.1) ++ (rdOf ByteArray.empty y118 bt121.1)) ++ bt124.1) ++ (⟨#[41]⟩ : ByteArray), bt124.2)) else (none)) else (none))) else (none)) else (none)) else (none)))) else (none)))))
def spec_l20Formula.f : Nat → List Int → Int → Int → Option (ByteArray × Int)
 | 0, _, _, _ => none
 | k + 1, s0_0, s0_1, a1 => if a1 = 0 then (spec_l20Formula.j0 k a1 true s0_0 s0_1) else ((spec_l20Rd_pick.f k s0_0 s0_1 5).bind fun bt104 => (spec_l20Formula.j0 k a1 (bt104.1 == 0) s0_0 bt104.2))
end
def spec_l20Formula.T5 : Bool × List (List Nat × List Nat) := (true, [([], []), ([], []), ([1], [1]), ([0, 2], [0, 2]), ([3], [3]), ([], []), ([], []), ([6, 3], [6]), ([5, 7], [5, 7]), ([8], [8]), ([4, 9], [4, 9]), ([], []), ([], []), ([12], [12]), ([11, 13, 7], [11, 13]), ([10, 14], [10, 14]), ([15], [15]), ([16, 14, 0, 1, 2, 3, 4, 5, 6, 7, 8, 9, 10, 11, 12, 13, 14, 15, 16], [16])])
def spec_l20Formula.B5 : List Nat := [0, 0, 2, 7, 15, 0, 0, 79, 239, 495, 1023, 0, 0, 4096, 14543, 32767, 65535, 131071]
theorem spec_l20Formula.tab5 : rtab .any (opsOf Tryz.f23 5) = spec_l20Formula.T5 := by kernel_rfl
theorem spec_l20Formula.bits5 : waitsOk spec_l20Formula.T5.2 spec_l20Formula.B5 = true := by kernel_rfl
set_option maxHeartbeats 8000000 in
set_option maxRecDepth 100000 in
theorem spec_l20Formula.calls (k : Nat) : ∀ (g : Nat) (s0_0 : List Int) (s0_1 : Int) (a1 : Int) (r1 : ByteArray) (r2 : Int) (w0 w : World) (hI : IsS57 w0 w g s0_0 s0_1) (hB : Below w0.heap.size w0 w) (h : spec_l20Formula.f k s0_0 s0_1 a1 = some (r1, r2)),
  Calls Tryz.prog 23 #[.pointer (some ⟨g, 0, none⟩), .int .i64 a1] w fun e w' => e = .returned (.string r1) ∧ IsS57 w0 w' g s0_0 r2 ∧ Below w0.heap.size w0 w' ∧ KeepBut w w' g none := by
 induction k using Nat.strongRecOn with
 |_ k ih=>
 intro g s0_0 s0_1 a1 r1 r2 w0 w hI hB h
 cases k with
 |zero=>exact absurd h (by simp [spec_l20Formula.f])
 |succ k=>
 simp only [spec_l20Formula.f] at h;have a0:=zqm hI;have HK:=zqm (KeepBut.refl w g none);have HL:=zqm hB.size;clear hI;have m1:=zqm hB.size;have HB:=zqm hB;clear hB;have H:(if a1=0 then(spec_l20Formula.j0 k a1 true s0_0 s0_1) else((spec_l20Rd_pick.f k s0_0 s0_1 5).bind fun f3=>(spec_l20Formula.j0 k a1 (f3.1==0) s0_0 f3.2)))=some (r1,r2):=h;clear h;have g2:=zqm H;clear H
 go_enter Tryz.func23,Tryz.ntmps23
 go_upto_region 1 with (fail)
 go_cut [11] (fun j2 wc=> ∃(kq:Nat) (d2:Bool) (a9:Int),j2= .bool d2∧Aside0 (spec_l20Formula.j0 kq a1 d2 s0_0 a9=some (r1,r2))∧Aside0 (kq≤k)∧Aside0 (IsS57 w0 wc g s0_0 a9)∧Aside0 (KeepBut w wc g none)∧Aside0 (Below w0.heap.size w0 wc))
 case first=>
  have H:=g2.out;clear g2
  by_cases c4:a1=0
  ·rw [if_pos c4] at H;have d4:(a1==0)=true:=beq_iff_eq.mpr c4;have h8:(a1 !=0)=false:=bne_eq_false_iff_eq.mpr c4;clear c4;(first|rw [d4]|(simp only [i64_w,i32_w];rw [d4])|skip);have H':=zqm H;clear H
   go_wp2
   go_meet
   case rel=>exact⟨_,(true),(s0_1),zq8,H',⟨zq52⟩,⟨zq10⟩,⟨zq7⟩,⟨zq11⟩⟩
  ·rw [if_neg c4] at H;have d4:(a1==0)=false:=beq_eq_false_iff_ne.mpr c4;have h8:(a1 !=0)=true:=bne_iff_ne.mpr c4;(first|rw [d4]|(simp only [i64_w,i32_w];rw [d4])|skip);replace H:=Option.bind_eq_some_iff.mp H;obtain⟨⟨f0,f1⟩,h0,H⟩:=H;replace H:(spec_l20Formula.j0 k a1 (f0==0) s0_0 f1)=some (r1,r2):=H;have A5:=zqm h0;clear h0;have H':=zqm H;clear H
   go_wp2_with (first|(go_at_call 24;(with_reducible refine(spec_l20Rd_pick.calls k g s0_0 s0_1 5 f0 f1 w0 _ ?side1 ?side2 A5.out).mono ?_);(case side1=> exact zq10);(case side2=> exact zq11);rintro e w6 ⟨rfl,hi,hb,hk⟩;replace HK:=zqm (KeepBut.trans zq7 hk (.inl rfl));replace HB:=zqm (hb);replace a0:=zqm (hi);clear hb hk hi))
   go_meet
   case rel=>exact⟨_,((f0==0)),(f1),zq8,H',⟨zq52⟩,⟨zq10⟩,⟨zq7⟩,⟨zq11⟩⟩
 case rest=>
  clear g2;obtain⟨kq,d2,a9,rfl,HA,g3,a0,HK,HB⟩:=hcut
  cases kq with
  |zero=>exact absurd HA.out (by simp [spec_l20Formula.j0])
  |succ b0=>
   have H:=HA.out;clear HA;simp only [spec_l20Formula.j0] at H
   by_cases c7:d2=true
   ·subst c7;(have H1:((some (([(⟨#[97]⟩:ByteArray),(⟨#[98]⟩:ByteArray),(⟨#[97]⟩:ByteArray),(⟨#[98]⟩:ByteArray),(⟨#[99]⟩:ByteArray),(⟨#[49]⟩:ByteArray),(⟨#[48]⟩:ByteArray)]:List ByteArray):List ByteArray)).bind fun b6=>((spec_l20Rd_pick.f b0 s0_0 a9 7).bind fun b3=>(if 0≤b3.1 then(if b3.1<(b6.length:Int) then(some (rdOf ByteArray.empty b6 b3.1,b3.2)) else(none)) else(none))))=some (r1,r2):=by rw [if_pos rfl] at H;exact H);clear H;have H:=H1;clear H1;obtain⟨b6,e1⟩: ∃y_:List ByteArray,y_=(([(⟨#[97]⟩:ByteArray),(⟨#[98]⟩:ByteArray),(⟨#[97]⟩:ByteArray),(⟨#[98]⟩:ByteArray),(⟨#[99]⟩:ByteArray),(⟨#[49]⟩:ByteArray),(⟨#[48]⟩:ByteArray)]:List ByteArray)):=⟨_,rfl⟩;replace H:((spec_l20Rd_pick.f b0 s0_0 a9 7).bind fun b3=>(if 0≤b3.1 then(if b3.1<(b6.length:Int) then(some (rdOf ByteArray.empty b6 b3.1,b3.2)) else(none)) else(none)))=some (r1,r2):=zqy e1 H;have f2:=zqm e1;clear e1;replace H:=Option.bind_eq_some_iff.mp H;obtain⟨⟨b4,g4⟩,h1,H⟩:=H;replace H:(if 0≤b4 then(if b4<(b6.length:Int) then(some (rdOf ByteArray.empty b6 b4,g4)) else(none)) else(none))=some (r1,r2):=H;have A8:=zqm h1;clear h1
    by_cases c9:0≤b4
    ·rw [if_pos c9] at H;have l7:decide (0≤b4)=true:=decide_eq_true c9;clear c9
     by_cases f4:b4<(b6.length:Int)
     ·rw [if_pos f4] at H;have j7:decide (b4<(b6.length:Int))=true:=decide_eq_true f4;clear f4;simp only [Option.some.injEq,Prod.mk.injEq] at H;obtain⟨rfl,rfl⟩:=H
      go_wp2_with (first|((with_reducible refine gate_dst (N:=12) rfl ?_);refine Kd.R_lit Kd.string _ 9 ?hg (N:=12) ?hd (xs:=([(⟨#[97]⟩:ByteArray),(⟨#[98]⟩:ByteArray),(⟨#[97]⟩:ByteArray),(⟨#[98]⟩:ByteArray),(⟨#[99]⟩:ByteArray),(⟨#[49]⟩:ByteArray),(⟨#[48]⟩:ByteArray)]:List ByteArray)) (inner:= [.string (⟨#[97]⟩:ByteArray),.string (⟨#[98]⟩:ByteArray),.string (⟨#[97]⟩:ByteArray),.string (⟨#[98]⟩:ByteArray),.string (⟨#[99]⟩:ByteArray),.string (⟨#[49]⟩:ByteArray),.string (⟨#[48]⟩:ByteArray)]) (ok:=fun _=>True) (okp:=fun _=>True) ?hr ?hp (fun _ hk=>hk) trivial (Below.refl _ _) (Nat.le_refl _) (by simp) ?_;(case hd=>rfl);(case hg=>rfl);(case hr=> exact zq16);(case hp=>exact(Reps.one (show Kd.M Kd.string _ _ _ (⟨#[97]⟩:ByteArray) [.string (⟨#[97]⟩:ByteArray)] from rfl) (Reps.one (show Kd.M Kd.string _ _ _ (⟨#[98]⟩:ByteArray) [.string (⟨#[98]⟩:ByteArray)] from rfl) (Reps.one (show Kd.M Kd.string _ _ _ (⟨#[97]⟩:ByteArray) [.string (⟨#[97]⟩:ByteArray)] from rfl) (Reps.one (show Kd.M Kd.string _ _ _ (⟨#[98]⟩:ByteArray) [.string (⟨#[98]⟩:ByteArray)] from rfl) (Reps.one (show Kd.M Kd.string _ _ _ (⟨#[99]⟩:ByteArray) [.string (⟨#[99]⟩:ByteArray)] from rfl) (Reps.one (show Kd.M Kd.string _ _ _ (⟨#[49]⟩:ByteArray) [.string (⟨#[49]⟩:ByteArray)] from rfl) (Reps.one (show Kd.M Kd.string _ _ _ (⟨#[48]⟩:ByteArray) [.string (⟨#[48]⟩:ByteArray)] from rfl) (Reps.none _ _)))))))));intro m0 n2 d5 hb hg_ hnew_;clear hg_ hnew_;(first|rw [← f2.out] at d5|(simp only [Int.reduceToNat] at d5;rw [← f2.out] at d5));have d1:=zqm (Kd.R_lower d5 (keep_size (w:=w) (g:=g) (row:=none) zq7));have b9:=zqm (IsS57.below zq10 hb);replace HK:=zqm (KeepBut.trans zq7 (KeepBut.of_below hb g none) (.inl rfl));replace HB:=zqm (below_step zq11 hb);clear a0;have a0:=b9;clear b9 hb d5)|((with_reducible refine gate_callee (f:=24) rfl ?_);refine goesL_ (some 14) rfl rfl Tryz.func24 zqk rfl #[.pointer (some ⟨g,0,none⟩),.int .i64 7] rfl zq3 ?_;(with_reducible refine(spec_l20Rd_pick.calls b0 g s0_0 a9 7 b4 g4 w0 _ ?side1 ?side2 A8.out).mono ?_);(case side1=> exact zq10);(case side2=> exact zq11);rintro e n3 ⟨rfl,hi,hb,hk⟩;refine⟨_,rfl,?_⟩;replace d1:=zqm (Kd.R_mono (Kd.R_keep (IsS57.apart (show IsS57 w0 _ g s0_0 a9 from zq10) (zqfR d1.out) (by decide)) hk (fun _ h=>h.2)) (fun _ h=>h.1));replace HK:=zqm (KeepBut.trans zq7 hk (.inl rfl));replace HB:=zqm (hb);replace a0:=zqm (hi);clear hb hk hi;obtain⟨l5,l8,i1⟩:=Kd.R_slice d1.out;subst i1;have e8:0≤(b4:Int):=zqo;have e9:b4<(b6.length:Int):=zqo;obtain⟨j6,i0,i4⟩:=Kd.at_string (Kd.R_reads' d1.out).2.2 b4 e8 e9;cases i0;replace e8:=eq_true e8;replace e9:=eq_true e9))
      go_ret
      exact⟨zq18,zq10,zq11,zq7⟩
     ·rw [if_neg f4] at H;exact absurd H (by simp)
    ·rw [if_neg c9] at H;exact absurd H (by simp)
   ·replace c7:=Bool.eq_false_iff.mpr c7;subst c7;(have H1:((spec_l20Rd_pick.f b0 s0_0 a9 3).bind fun e0=>(if e0.1=0 then((spec_l20Formula.f b0 s0_0 e0.2 (wrap64 (a1 - 1))).bind fun b7=>(if 1+b7.1.size≤9223372036854775807 then(some ((⟨#[33]⟩:ByteArray) ++ b7.1,b7.2)) else(none))) else((spec_l20Formula.f b0 s0_0 e0.2 (wrap64 (a1 - 1))).bind fun b1=>(if 1+b1.1.size≤9223372036854775807 then((some (([(⟨#[38]⟩:ByteArray),(⟨#[124]⟩:ByteArray)]:List ByteArray):List ByteArray)).bind fun a2=>((spec_l20Rd_pick.f b0 s0_0 b1.2 2).bind fun a5=>(if 0≤a5.1 then(if a5.1<(a2.length:Int) then(if((⟨#[40]⟩:ByteArray) ++ b1.1).size+(rdOf ByteArray.empty a2 a5.1).size≤9223372036854775807 then((spec_l20Formula.f b0 s0_0 a5.2 (wrap64 (a1 - 1))).bind fun a7=>(if(((⟨#[40]⟩:ByteArray) ++ b1.1) ++ (rdOf ByteArray.empty a2 a5.1)).size+a7.1.size≤9223372036854775807 then(if((((⟨#[40]⟩:ByteArray) ++ b1.1) ++ (rdOf ByteArray.empty a2 a5.1)) ++ a7.1).size+1≤9223372036854775807 then(some (((((⟨#[40]⟩:ByteArray) ++ b1.1) ++ (rdOf ByteArray.empty a2 a5.1)) ++ a7.1) ++ (⟨#[41]⟩:ByteArray),a7.2)) else(none)) else(none))) else(none)) else(none)) else(none)))) else(none)))))=some (r1,r2):=by rw [if_neg (show¬(false=true) by decide)] at H;exact H);clear H;have H:=H1;clear H1;replace H:=Option.bind_eq_some_iff.mp H;obtain⟨⟨c1,b5⟩,f7,H⟩:=H;replace H:(if c1=0 then((spec_l20Formula.f b0 s0_0 b5 (wrap64 (a1 - 1))).bind fun b7=>(if 1+b7.1.size≤9223372036854775807 then(some ((⟨#[33]⟩:ByteArray) ++ b7.1,b7.2)) else(none))) else((spec_l20Formula.f b0 s0_0 b5 (wrap64 (a1 - 1))).bind fun b1=>(if 1+b1.1.size≤9223372036854775807 then((some (([(⟨#[38]⟩:ByteArray),(⟨#[124]⟩:ByteArray)]:List ByteArray):List ByteArray)).bind fun a2=>((spec_l20Rd_pick.f b0 s0_0 b1.2 2).bind fun a5=>(if 0≤a5.1 then(if a5.1<(a2.length:Int) then(if((⟨#[40]⟩:ByteArray) ++ b1.1).size+(rdOf ByteArray.empty a2 a5.1).size≤9223372036854775807 then((spec_l20Formula.f b0 s0_0 a5.2 (wrap64 (a1 - 1))).bind fun a7=>(if(((⟨#[40]⟩:ByteArray) ++ b1.1) ++ (rdOf ByteArray.empty a2 a5.1)).size+a7.1.size≤9223372036854775807 then(if((((⟨#[40]⟩:ByteArray) ++ b1.1) ++ (rdOf ByteArray.empty a2 a5.1)) ++ a7.1).size+1≤9223372036854775807 then(some (((((⟨#[40]⟩:ByteArray) ++ b1.1) ++ (rdOf ByteArray.empty a2 a5.1)) ++ a7.1) ++ (⟨#[41]⟩:ByteArray),a7.2)) else(none)) else(none))) else(none)) else(none)) else(none)))) else(none))))=some (r1,r2):=H;have g9:=zqm f7;clear f7
    by_cases d3:c1=0
    ·rw [if_pos d3] at H;have g6:(c1==0)=true:=beq_iff_eq.mpr d3;have g7:(c1 !=0)=false:=bne_eq_false_iff_eq.mpr d3;clear d3;replace H:=Option.bind_eq_some_iff.mp H;obtain⟨⟨c5,g5⟩,f8,H⟩:=H;replace H:(if 1+c5.size≤9223372036854775807 then(some ((⟨#[33]⟩:ByteArray) ++ c5,g5)) else(none))=some (r1,r2):=H;have i5:=zqm f8;clear f8
     by_cases e4:1+c5.size≤9223372036854775807
     ·rw [if_pos e4] at H;have j8:=eq_true e4;have j9:decide (1+c5.size≤9223372036854775807)=true:=decide_eq_true e4;(try have k0:(9223372036854775807<1+c5.size)=False:=eq_false (Nat.not_lt.2 e4));simp only [Option.some.injEq,Prod.mk.injEq] at H;obtain⟨rfl,rfl⟩:=H
      go_wp2_with (first|((with_reducible refine gate_callee (f:=24) rfl ?_);refine goesL_ (some 18) rfl rfl Tryz.func24 zqk rfl #[.pointer (some ⟨g,0,none⟩),.int .i64 3] rfl zq3 ?_;(with_reducible refine(spec_l20Rd_pick.calls b0 g s0_0 a9 3 c1 b5 w0 _ ?side1 ?side2 g9.out).mono ?_);(case side1=> exact zq10);(case side2=> exact zq11);rintro e n4 ⟨rfl,hi,hb,hk⟩;refine⟨_,rfl,?_⟩;replace HK:=zqm (KeepBut.trans zq7 hk (.inl rfl));replace HB:=zqm (hb);replace a0:=zqm (hi);clear hb hk hi)|((with_reducible refine gate_callee (f:=23) rfl ?_);refine goesL_ (some 23) rfl rfl Tryz.func23 zqk rfl #[.pointer (some ⟨g,0,none⟩),.int .i64 (wrap64 (a1 - 1))] rfl zq3 ?_;(with_reducible refine(ih b0 (by have:=g3.out;omega) g s0_0 b5 (wrap64 (a1 - 1)) c5 g5 w0 _ ?side1 ?side2 i5.out).mono ?_);(case side1=> exact zq10);(case side2=> exact zq11);rintro e n5 ⟨rfl,hi,hb,hk⟩;refine⟨_,rfl,?_⟩;replace HK:=zqm (KeepBut.trans zq7 hk (.inl rfl));replace HB:=zqm (hb);replace a0:=zqm (hi);clear hb hk hi))
      go_ret
      exact⟨zq18,zq10,zq11,zq7⟩
     ·rw [if_neg e4] at H;exact absurd H (by simp)
    ·rw [if_neg d3] at H;have g6:(c1==0)=false:=beq_eq_false_iff_ne.mpr d3;have g7:(c1 !=0)=true:=bne_iff_ne.mpr d3;replace H:=Option.bind_eq_some_iff.mp H;obtain⟨⟨a3,c2⟩,f9,H⟩:=H;replace H:(if 1+a3.size≤9223372036854775807 then((some (([(⟨#[38]⟩:ByteArray),(⟨#[124]⟩:ByteArray)]:List ByteArray):List ByteArray)).bind fun a2=>((spec_l20Rd_pick.f b0 s0_0 c2 2).bind fun a5=>(if 0≤a5.1 then(if a5.1<(a2.length:Int) then(if((⟨#[40]⟩:ByteArray) ++ a3).size+(rdOf ByteArray.empty a2 a5.1).size≤9223372036854775807 then((spec_l20Formula.f b0 s0_0 a5.2 (wrap64 (a1 - 1))).bind fun a7=>(if(((⟨#[40]⟩:ByteArray) ++ a3) ++ (rdOf ByteArray.empty a2 a5.1)).size+a7.1.size≤9223372036854775807 then(if((((⟨#[40]⟩:ByteArray) ++ a3) ++ (rdOf ByteArray.empty a2 a5.1)) ++ a7.1).size+1≤9223372036854775807 then(some (((((⟨#[40]⟩:ByteArray) ++ a3) ++ (rdOf ByteArray.empty a2 a5.1)) ++ a7.1) ++ (⟨#[41]⟩:ByteArray),a7.2)) else(none)) else(none))) else(none)) else(none)) else(none)))) else(none))=some (r1,r2):=H;have i6:=zqm f9;clear f9
     by_cases e5:1+a3.size≤9223372036854775807
     ·rw [if_pos e5] at H;have k1:=eq_true e5;have k2:decide (1+a3.size≤9223372036854775807)=true:=decide_eq_true e5;(try have k3:(9223372036854775807<1+a3.size)=False:=eq_false (Nat.not_lt.2 e5));obtain⟨a2,e2⟩: ∃y_:List ByteArray,y_=(([(⟨#[38]⟩:ByteArray),(⟨#[124]⟩:ByteArray)]:List ByteArray)):=⟨_,rfl⟩;replace H:((spec_l20Rd_pick.f b0 s0_0 c2 2).bind fun a5=>(if 0≤a5.1 then(if a5.1<(a2.length:Int) then(if((⟨#[40]⟩:ByteArray) ++ a3).size+(rdOf ByteArray.empty a2 a5.1).size≤9223372036854775807 then((spec_l20Formula.f b0 s0_0 a5.2 (wrap64 (a1 - 1))).bind fun a7=>(if(((⟨#[40]⟩:ByteArray) ++ a3) ++ (rdOf ByteArray.empty a2 a5.1)).size+a7.1.size≤9223372036854775807 then(if((((⟨#[40]⟩:ByteArray) ++ a3) ++ (rdOf ByteArray.empty a2 a5.1)) ++ a7.1).size+1≤9223372036854775807 then(some (((((⟨#[40]⟩:ByteArray) ++ a3) ++ (rdOf ByteArray.empty a2 a5.1)) ++ a7.1) ++ (⟨#[41]⟩:ByteArray),a7.2)) else(none)) else(none))) else(none)) else(none)) else(none)))=some (r1,r2):=zqy e2 H;have d9:=zqm e2;clear e2;replace H:=Option.bind_eq_some_iff.mp H;obtain⟨⟨a4,c3⟩,g0,H⟩:=H;replace H:(if 0≤a4 then(if a4<(a2.length:Int) then(if((⟨#[40]⟩:ByteArray) ++ a3).size+(rdOf ByteArray.empty a2 a4).size≤9223372036854775807 then((spec_l20Formula.f b0 s0_0 c3 (wrap64 (a1 - 1))).bind fun a7=>(if(((⟨#[40]⟩:ByteArray) ++ a3) ++ (rdOf ByteArray.empty a2 a4)).size+a7.1.size≤9223372036854775807 then(if((((⟨#[40]⟩:ByteArray) ++ a3) ++ (rdOf ByteArray.empty a2 a4)) ++ a7.1).size+1≤9223372036854775807 then(some (((((⟨#[40]⟩:ByteArray) ++ a3) ++ (rdOf ByteArray.empty a2 a4)) ++ a7.1) ++ (⟨#[41]⟩:ByteArray),a7.2)) else(none)) else(none))) else(none)) else(none)) else(none))=some (r1,r2):=H;have i7:=zqm g0;clear g0
      by_cases f5:0≤a4
      ·rw [if_pos f5] at H;have k4:decide (0≤a4)=true:=decide_eq_true f5;clear f5
       by_cases f6:a4<(a2.length:Int)
       ·rw [if_pos f6] at H;have k5:decide (a4<(a2.length:Int))=true:=decide_eq_true f6;clear f6
        by_cases d7:((⟨#[40]⟩:ByteArray) ++ a3).size+(rdOf ByteArray.empty a2 a4).size≤9223372036854775807
        ·rw [if_pos d7] at H;have k6:=eq_true d7;have k7:decide (((⟨#[40]⟩:ByteArray) ++ a3).size+(rdOf ByteArray.empty a2 a4).size≤9223372036854775807)=true:=decide_eq_true d7;(try have k8:(9223372036854775807<((⟨#[40]⟩:ByteArray) ++ a3).size+(rdOf ByteArray.empty a2 a4).size)=False:=eq_false (Nat.not_lt.2 d7));(try have c26bs:(9223372036854775807<1+a3.size+(rdOf ByteArray.empty a2 a4).size)=False:=eq_false (by have h_:=d7;have l0_:(⟨#[40]⟩:ByteArray).size=1:=rfl;rw [ByteArray.size_append,l0_] at h_;omega));replace H:=Option.bind_eq_some_iff.mp H;obtain⟨⟨a8,e3⟩,g1,H⟩:=H;replace H:(if(((⟨#[40]⟩:ByteArray) ++ a3) ++ (rdOf ByteArray.empty a2 a4)).size+a8.size≤9223372036854775807 then(if((((⟨#[40]⟩:ByteArray) ++ a3) ++ (rdOf ByteArray.empty a2 a4)) ++ a8).size+1≤9223372036854775807 then(some (((((⟨#[40]⟩:ByteArray) ++ a3) ++ (rdOf ByteArray.empty a2 a4)) ++ a8) ++ (⟨#[41]⟩:ByteArray),e3)) else(none)) else(none))=some (r1,r2):=H;have i8:=zqm g1;clear g1
         by_cases e6:(((⟨#[40]⟩:ByteArray) ++ a3) ++ (rdOf ByteArray.empty a2 a4)).size+a8.size≤9223372036854775807
         ·rw [if_pos e6] at H;have k9:=eq_true e6;have l0:decide ((((⟨#[40]⟩:ByteArray) ++ a3) ++ (rdOf ByteArray.empty a2 a4)).size+a8.size≤9223372036854775807)=true:=decide_eq_true e6;try have l1:(9223372036854775807<(((⟨#[40]⟩:ByteArray) ++ a3) ++ (rdOf ByteArray.empty a2 a4)).size+a8.size)=False:=eq_false (Nat.not_lt.2 e6)
          by_cases e7:((((⟨#[40]⟩:ByteArray) ++ a3) ++ (rdOf ByteArray.empty a2 a4)) ++ a8).size+1≤9223372036854775807
          ·rw [if_pos e7] at H;have l2:=eq_true e7;have l3:decide (((((⟨#[40]⟩:ByteArray) ++ a3) ++ (rdOf ByteArray.empty a2 a4)) ++ a8).size+1≤9223372036854775807)=true:=decide_eq_true e7;(try have l4:(9223372036854775807<((((⟨#[40]⟩:ByteArray) ++ a3) ++ (rdOf ByteArray.empty a2 a4)) ++ a8).size+1)=False:=eq_false (Nat.not_lt.2 e7));simp only [Option.some.injEq,Prod.mk.injEq] at H;obtain⟨rfl,rfl⟩:=H;(try go_wp2_with (first|((with_reducible refine gate_callee (f:=24) rfl ?_);refine goesL_ (some 18) rfl rfl Tryz.func24 zqk rfl #[.pointer (some ⟨g,0,none⟩),.int .i64 3] rfl zq3 ?_;(with_reducible refine(spec_l20Rd_pick.calls b0 g s0_0 a9 3 c1 b5 w0 _ ?side1 ?side2 g9.out).mono ?_);(case side1=> exact zq10);(case side2=> exact zq11);rintro e j3 ⟨rfl,hi,hb,hk⟩;refine⟨_,rfl,?_⟩;replace HK:=zqm (KeepBut.trans zq7 hk (.inl rfl));replace HB:=zqm (hb);replace a0:=zqm (hi);clear hb hk hi)));have pi123:(0≤(a4:Int))=True:=eq_true (zqo);have g8:(a4<(a2.length:Int))=True:=eq_true (zqo);replace a0:=zqm (IsS57.drew a0.out);replace HK:=zqm (keep_drew HK.out);replace HB:=zqm (below_drew1 HB.out);refine start_ (n:=18) (S:=fun w'=>True) (ds:= []) (zqb 18 0) zqk rfl rfl trivial (fun hHeld=>?_);refine with_tabW spec_l20Formula.tab5 spec_l20Formula.bits5 (fun HT_ HW_=>?_);generalize j3.drew=n6 at a0 HK HB hHeld ⊢;refine zqp 0 25 (zqb 18 1) HT_ ?_;refine zqp 1 26 (zqb 18 3) HT_ ?_;refine zqp 6 31 (zqb 18 67) HT_ ?_;refine zqp 11 36 (zqb 18 2115) HT_ ?_;refine zqp 12 37 (zqb 18 6211) HT_ ?_;refine inv_at [2,3,4,5,7,8,9,10,13,14,15,16,17] (fun a0_ b a w'=> ∃(a6:Value) (adz_v119:Addr) (m8_:Value),a=putSel a0_ b [(2,27,.int .i64 (wrap64 (a1 - 1))),(3,28,.string a3),(4,29,.string ((⟨#[40]⟩:ByteArray) ++ a3)),(5,30,a6),(7,32,.int .i64 a4),(8,33,m8_),(9,34,.string (rdOf ByteArray.empty a2 a4)),(10,35,.string (((⟨#[40]⟩:ByteArray) ++ a3) ++ (rdOf ByteArray.empty a2 a4))),(13,38,.int .i64 (wrap64 (a1 - 1))),(14,39,.string a8),(15,40,.string ((((⟨#[40]⟩:ByteArray) ++ a3) ++ (rdOf ByteArray.empty a2 a4)) ++ a8)),(16,41,.string (((((⟨#[40]⟩:ByteArray) ++ a3) ++ (rdOf ByteArray.empty a2 a4)) ++ a8) ++ (⟨#[41]⟩:ByteArray))),(17,4,.string (((((⟨#[40]⟩:ByteArray) ++ a3) ++ (rdOf ByteArray.empty a2 a4)) ++ a8) ++ (⟨#[41]⟩:ByteArray)))]∧(b 3=false→IsS57 w0 w' g s0_0 b5)∧(KeepBut w w' g none)∧(Below w0.heap.size w0 w')∧(b 3=true→b 7=false→IsS57 w0 w' g s0_0 c2)∧(b 5=true→Kd.R Kd.string 9 w' w.heap.size (fun _=>True) a6 a2)∧(b 5=true→ ∃c_,(a6:Value)= .slice (some adz_v119) a2.length c_)∧(b 7=true→b 14=false→IsS57 w0 w' g s0_0 c3)∧(b 14=true→IsS57 w0 w' g s0_0 e3)∧(b 8=true→(m8_:Value)= .pointer (some (adz_v119.add (a4).toNat)))) HT_.out HW_.out zqk zqk ?_ ?_ ?_
           ·exact⟨.bool false,⟨0,0,none⟩,.bool false,by simp only [putSel,Bool.false_eq_true,if_false],fun _=>a0.out,HK.out,HB.out,fun h_=>absurd h_ (by decide),fun h_=>absurd h_ (by decide),fun h_=>absurd h_ (by decide),fun h_=>absurd h_ (by decide),fun h_=>absurd h_ (by decide),fun h_=>absurd h_ (by decide)⟩
           ·skip
            clear HB a0 HK;refine steps_cons ?_ ?_
            ·rintro b a w' ⟨a6,adz_v119,m8_,ha,Q_HI0,Q_HK,Q_HB,Q_HI0_e3,Q_HO120,Q_HA_HO120,Q_HI0_e7,Q_HI0_e14,Q_X8_⟩ hb_ hon hoff;refine⟨_,rfl,fun K hK=>?_⟩;(have m2:a.tmps[26]? =some (.int .i64 a1):=by rw [ha];exact(putSel_off rfl).trans rfl);replace ha:=zqm ha;have a0:=zqm (Q_HI0 (hoff 3 zqk));have HK:=zqm Q_HK;have HB:=zqm Q_HB;refine value_ (w1:=w') (v:= .int .i64 (wrap64 (a1 - 1))) (by rfl) rfl ?_ ?_
             ·go_simp;(try simp only [i64_w])
              first|rfl|(have c6:(⟨#[40]⟩:ByteArray).size=1:=rfl;have c8:(⟨#[41]⟩:ByteArray).size=1:=rfl;have d0:(⟨#[33]⟩:ByteArray).size=1:=rfl;simp only [ByteArray.size_append,ByteArray.size_extract,decide_eq_true_eq] at*;omega)|skip
             refine hK.out _ _ ⟨a6,adz_v119,m8_,(by rw [ha.out];exact putSel_upk 0 hb_ rfl rfl rfl),Q_HI0,Q_HK,Q_HB,fun h0_ _=>absurd ((hoff 3 zqk).symm.trans h0_) (by decide),Q_HO120,Q_HA_HO120,fun h0_ _=>absurd ((hoff 7 zqk).symm.trans h0_) (by decide),fun h0_=>absurd ((hoff 14 zqk).symm.trans h0_) (by decide),fun h0_=>absurd ((hoff 8 zqk).symm.trans h0_) (by decide)⟩
            refine steps_cons ?_ ?_
            ·rintro b a w' ⟨a6,adz_v119,m8_,ha,Q_HI0,Q_HK,Q_HB,Q_HI0_e3,Q_HO120,Q_HA_HO120,Q_HI0_e7,Q_HI0_e14,Q_X8_⟩ hb_ hon hoff;refine⟨_,rfl,fun K hK=>?_⟩;(have h2:a.tmps[25]? =some (.pointer (some ⟨g,0,none⟩)):=by rw [ha];exact(putSel_off rfl).trans rfl);(have h3:a.tmps[27]? =some (.int .i64 (wrap64 (a1 - 1))):=by rw [ha];exact putSel_on (e:=(2,27,.int .i64 (wrap64 (a1 - 1)))) 0 rfl rfl (hon 2 zqk) rfl);replace ha:=zqm ha;have a0:=zqm (Q_HI0 hb_);have HK:=zqm Q_HK;have HB:=zqm Q_HB;refine goes_ Tryz.func23 zqk rfl #[.pointer (some ⟨g,0,none⟩),.int .i64 (wrap64 (a1 - 1))] (by rfl) rfl rfl (by first|(simp only [List.map_toArray,List.map_cons,List.map_nil,Act.eval,Array.getD_eq_getD_getElem?,Option.getD_some,h2,h3];done)|(simp only [List.map_toArray,List.map_cons,List.map_nil,Act.eval,Array.getD_eq_getD_getElem?,Option.getD_some,h2,h3];rfl)) ?_;(with_reducible refine(ih b0 (by have:=g3.out;omega) g s0_0 b5 (wrap64 (a1 - 1)) a3 c2 w0 _ ?side1 ?side2 i6.out).mono ?_);(case side1=> exact zq10);(case side2=> exact zq11);rintro e d8 ⟨rfl,hi,hb,hk⟩;refine⟨_,rfl,?_⟩;have b8:=zqm (KeepBut.trans zq7 hk (.inl rfl));have b9:=zqm (hb);have c0:=zqm (hi);have z_HO120:=fun(h0_:b 5=true)=>(show Kd.R Kd.string 9 d8 w.heap.size (fun _=>True) a6 a2 from by first|exact(Kd.R_mono (Kd.R_keep (IsS57.apart (show IsS57 w0 _ g s0_0 b5 from by repeat(first|(with_reducible first|exact a0.out|apply IsS57.alloc|apply IsS57.drewN|apply IsS57.drew|apply IsS57.set_1)|exact a0.out)) zq51 (by decide)) hk (fun _ h=>h.2)) (fun _ h=>h.1))|exact Kd.R_mono (Kd.R_mono (Kd.R_keep (IsS57.apart (show IsS57 w0 _ g s0_0 b5 from zq10) zq51 (by decide)) hk (fun _ h=>h.2)) (fun _ h=>h.1)) (fun _ h_=>by first|trivial|exact h_|exact h_.1));clear HK HB a0;have HK:=b8;have HB:=b9;have a0:=c0;clear b8 b9 c0 hb hk hi;refine hK.out _ _ ⟨a6,adz_v119,m8_,(by rw [ha.out];exact putSel_upk 1 hb_ rfl rfl rfl),fun h0_=>absurd ((up_self b 3).symm.trans h0_) (by decide),zq7,zq11,fun _ _=>zq10,z_HO120,Q_HA_HO120,fun h0_ _=>absurd ((hoff 7 zqk).symm.trans h0_) (by decide),fun h0_=>absurd ((hoff 14 zqk).symm.trans h0_) (by decide),fun h0_=>absurd ((hoff 8 zqk).symm.trans h0_) (by decide)⟩
            refine steps_cons ?_ ?_
            ·rintro b a w' ⟨a6,adz_v119,m8_,ha,Q_HI0,Q_HK,Q_HB,Q_HI0_e3,Q_HO120,Q_HA_HO120,Q_HI0_e7,Q_HI0_e14,Q_X8_⟩ hb_ hon hoff;refine⟨_,rfl,fun K hK=>?_⟩;(have m3:a.tmps[28]? =some (.string a3):=by rw [ha];exact putSel_on (e:=(3,28,.string a3)) 1 rfl rfl (hon 3 zqk) rfl);replace ha:=zqm ha;have HK:=zqm Q_HK;have HB:=zqm Q_HB;refine value_ (w1:=w') (v:= .string ((⟨#[40]⟩:ByteArray) ++ a3)) (by rfl) rfl ?_ ?_
             ·go_simp;(try simp only [i64_w])
              first|rfl|(have c6:(⟨#[40]⟩:ByteArray).size=1:=rfl;have c8:(⟨#[41]⟩:ByteArray).size=1:=rfl;have d0:(⟨#[33]⟩:ByteArray).size=1:=rfl;simp only [ByteArray.size_append,ByteArray.size_extract,decide_eq_true_eq] at*;omega)|skip
             refine hK.out _ _ ⟨a6,adz_v119,m8_,(by rw [ha.out];exact putSel_upk 2 hb_ rfl rfl rfl),fun h0_=>absurd ((hon 3 zqk).symm.trans h0_) (by decide),Q_HK,Q_HB,Q_HI0_e3,Q_HO120,Q_HA_HO120,Q_HI0_e7,Q_HI0_e14,Q_X8_⟩
            refine steps_cons ?_ ?_
            ·rintro b a w' ⟨a6,adz_v119,m8_,ha,Q_HI0,Q_HK,Q_HB,Q_HI0_e3,Q_HO120,Q_HA_HO120,Q_HI0_e7,Q_HI0_e14,Q_X8_⟩ hb_ hon hoff;refine⟨_,rfl,fun K hK=>?_⟩;replace ha:=zqm ha;have HK:=zqm Q_HK;have HB:=zqm Q_HB;refine Kd.R_lit_step Kd.string _ 9 ?hg (N:=30) ?hd (xs:=([(⟨#[38]⟩:ByteArray),(⟨#[124]⟩:ByteArray)]:List ByteArray)) (inner:= [.string (⟨#[38]⟩:ByteArray),.string (⟨#[124]⟩:ByteArray)]) (ok:=fun _=>True) (okp:=fun _=>True) ?hr ?hp (fun _ hk=>hk) trivial (Below.refl _ _) (Nat.le_refl _) (by simp) ?_;(case hd=>rfl);(case hg=>rfl);(case hr=> exact zq16);(case hp=>exact(Reps.one (show Kd.M Kd.string _ _ _ (⟨#[38]⟩:ByteArray) [.string (⟨#[38]⟩:ByteArray)] from rfl) (Reps.one (show Kd.M Kd.string _ _ _ (⟨#[124]⟩:ByteArray) [.string (⟨#[124]⟩:ByteArray)] from rfl) (Reps.none _ _))));intro a6 d8 d6 hb hg_ hnew_;clear hg_ hnew_;(first|rw [← d9.out] at d6|(simp only [Int.reduceToNat] at d6;rw [← d9.out] at d6));have b8:=zqm (Kd.R_lower d6 (keep_size (w:=w) (g:=g) (row:=none) zq7));have c0:=zqm (KeepBut.trans zq7 (KeepBut.of_below hb g none) (.inl rfl));have h7:=zqm (below_step zq5 hb);have z_HI0:=fun(h0_:b 3=false)=>(show IsS57 w0 d8 g s0_0 b5 from by first|exact(IsS57.below zq101 hb));have z_HI0_e3:=fun(h0_:b 3=true) (h1_:b 7=false)=>(show IsS57 w0 d8 g s0_0 c2 from by first|exact(IsS57.below (by repeat(first|(with_reducible first|exact(Q_HI0_e3 h0_ h1_)|apply IsS57.alloc|apply IsS57.drewN|apply IsS57.drew|apply IsS57.set_1)|exact(Q_HI0_e3 h0_ h1_))) hb));have z_HI0_e7:=fun(h0_:b 7=true) (h1_:b 14=false)=>(show IsS57 w0 d8 g s0_0 c3 from by first|exact(IsS57.below (by repeat(first|(with_reducible first|exact(Q_HI0_e7 h0_ h1_)|apply IsS57.alloc|apply IsS57.drewN|apply IsS57.drew|apply IsS57.set_1)|exact(Q_HI0_e7 h0_ h1_))) hb));have z_HI0_e14:=fun(h0_:b 14=true)=>(show IsS57 w0 d8 g s0_0 e3 from by first|exact(IsS57.below (by repeat(first|(with_reducible first|exact(Q_HI0_e14 h0_)|apply IsS57.alloc|apply IsS57.drewN|apply IsS57.drew|apply IsS57.set_1)|exact(Q_HI0_e14 h0_))) hb));clear HK HB;have b2:=b8;have HK:=c0;have HB:=h7;clear b8 c0 h7 hb d6;obtain⟨l6,h9,i2⟩:=Kd.R_slice b2.out;subst i2;obtain⟨ado34,fo34,_⟩:=Kd.at_string (Kd.R_reads' b2.out).2.2 0 (by decide) (by rw [d9.out];simp)
             cases fo34
             refine hK.out _ _ ⟨.slice (some ado34) a2.length h9,ado34,m8_,(by rw [ha.out];exact putSel_upk 3 hb_ rfl rfl rfl),z_HI0,zq7,zq5,z_HI0_e3,fun _=>zq116,fun _=>⟨_,rfl⟩,z_HI0_e7,z_HI0_e14,fun h0_=>absurd ((hoff 8 zqk).symm.trans h0_) (by decide)⟩
            refine steps_cons ?_ ?_
            ·rintro b a w' ⟨a6,adz_v119,m8_,ha,Q_HI0,Q_HK,Q_HB,Q_HI0_e3,Q_HO120,Q_HA_HO120,Q_HI0_e7,Q_HI0_e14,Q_X8_⟩ hb_ hon hoff;refine⟨_,rfl,fun K hK=>?_⟩;(have h4:a.tmps[31]? =some (.pointer (some ⟨g,0,none⟩)):=by rw [ha];exact(putSel_off rfl).trans rfl);replace ha:=zqm ha;have HK:=zqm Q_HK;have HB:=zqm Q_HB;have a0:=zqm (Q_HI0_e3 (hon 3 zqk) hb_);refine goes_ Tryz.func24 zqk rfl #[.pointer (some ⟨g,0,none⟩),.int .i64 2] (by rfl) rfl rfl (by first|(simp only [List.map_toArray,List.map_cons,List.map_nil,Act.eval,Array.getD_eq_getD_getElem?,Option.getD_some,h4];done)|(simp only [List.map_toArray,List.map_cons,List.map_nil,Act.eval,Array.getD_eq_getD_getElem?,Option.getD_some,h4];rfl)) ?_;(with_reducible refine(spec_l20Rd_pick.calls b0 g s0_0 c2 2 a4 c3 w0 _ ?side1 ?side2 i7.out).mono ?_);(case side1=> exact zq10);(case side2=> exact zq11);rintro e j4 ⟨rfl,hi,hb,hk⟩;refine⟨_,rfl,?_⟩;have b8:=zqm (KeepBut.trans zq7 hk (.inl rfl));have b9:=zqm (hb);have c0:=zqm (hi);have z_HO120:=fun(h0_:b 5=true)=>(show Kd.R Kd.string 9 j4 w.heap.size (fun _=>True) a6 a2 from by first|exact(Kd.R_mono (Kd.R_keep (IsS57.apart (show IsS57 w0 _ g s0_0 c2 from by repeat(first|(with_reducible first|exact a0.out|apply IsS57.alloc|apply IsS57.drewN|apply IsS57.drew|apply IsS57.set_1)|exact a0.out)) zq51 (by decide)) hk (fun _ h=>h.2)) (fun _ h=>h.1))|exact Kd.R_mono (Kd.R_mono (Kd.R_keep (IsS57.apart (show IsS57 w0 _ g s0_0 c2 from zq10) zq51 (by decide)) hk (fun _ h=>h.2)) (fun _ h=>h.1)) (fun _ h_=>by first|trivial|exact h_|exact h_.1));clear HK HB a0;have HK:=b8;have HB:=b9;have a0:=c0;clear b8 b9 c0 hb hk hi;refine hK.out _ _ ⟨a6,adz_v119,m8_,(by rw [ha.out];exact putSel_upk 4 hb_ rfl rfl rfl),fun h0_=>absurd ((hon 3 zqk).symm.trans h0_) (by decide),zq7,zq11,fun _ h1_=>absurd ((up_self b 7).symm.trans h1_) (by decide),z_HO120,Q_HA_HO120,fun _ _=>zq10,fun h0_=>absurd ((hoff 14 zqk).symm.trans h0_) (by decide),fun h0_=>absurd ((hoff 8 zqk).symm.trans h0_) (by decide)⟩
            refine steps_cons ?_ ?_
            ·rintro b a w' ⟨a6,adz_v119,m8_,ha,Q_HI0,Q_HK,Q_HB,Q_HI0_e3,Q_HO120,Q_HA_HO120,Q_HI0_e7,Q_HI0_e14,Q_X8_⟩ hb_ hon hoff;refine⟨_,rfl,fun K hK=>?_⟩;(have i9:a.tmps[30]? =some (a6):=by rw [ha];exact putSel_on (e:=(5,30,a6)) 3 rfl rfl (hon 5 zqk) rfl);(have m5:a.tmps[32]? =some (.int .i64 a4):=by rw [ha];exact putSel_on (e:=(7,32,.int .i64 a4)) 4 rfl rfl (hon 7 zqk) rfl);replace ha:=zqm ha;have HK:=zqm Q_HK;have HB:=zqm Q_HB;have b2:=zqm (Q_HO120 (hon 5 zqk));have HA_HO120:=zqm (Q_HA_HO120 (hon 5 zqk));obtain⟨c_,hv_⟩:=HA_HO120.out;rw [hv_] at i9;refine value_ (w1:=w') (v:= .pointer (some (adz_v119.add (a4).toNat))) (by rfl) rfl ?_ ?_
             ·go_simp;(try simp only [i64_w])
              first|rfl|(have c6:(⟨#[40]⟩:ByteArray).size=1:=rfl;have c8:(⟨#[41]⟩:ByteArray).size=1:=rfl;have d0:(⟨#[33]⟩:ByteArray).size=1:=rfl;simp only [ByteArray.size_append,ByteArray.size_extract,decide_eq_true_eq] at*;omega)|skip
             refine hK.out _ _ ⟨a6,adz_v119,(.pointer (some (adz_v119.add (a4).toNat))),(by rw [ha.out];exact putSel_upk 5 hb_ rfl rfl rfl),fun h0_=>absurd ((hon 3 zqk).symm.trans h0_) (by decide),Q_HK,Q_HB,fun _ h1_=>absurd ((hon 7 zqk).symm.trans h1_) (by decide),Q_HO120,Q_HA_HO120,Q_HI0_e7,Q_HI0_e14,fun _=>rfl⟩
            refine steps_cons ?_ ?_
            ·rintro b a w' ⟨a6,adz_v119,m8_,ha,Q_HI0,Q_HK,Q_HB,Q_HI0_e3,Q_HO120,Q_HA_HO120,Q_HI0_e7,Q_HI0_e14,Q_X8_⟩ hb_ hon hoff;refine⟨_,rfl,fun K hK=>?_⟩;(have j1:a.tmps[33]? =some (m8_):=by rw [ha];exact putSel_on (e:=(8,33,m8_)) 5 rfl rfl (hon 8 zqk) rfl);rw [Q_X8_ (hon 8 zqk)] at j1;replace ha:=zqm ha;have HK:=zqm Q_HK;have HB:=zqm Q_HB;have b2:=zqm (Q_HO120 (hon 5 zqk));have HA_HO120:=zqm (Q_HA_HO120 (hon 5 zqk));obtain⟨c_,hv_⟩:=HA_HO120.out;have hF_:=b2.out;rw [hv_] at hF_;obtain⟨ad_,ea_,hx_⟩:=Kd.at_string (Kd.R_reads' hF_).2.2 a4 (of_eq_true pi123) (of_eq_true g8)
             cases ea_
             refine value_ (w1:=w') (v:= .string (rdOf ByteArray.empty a2 a4)) (by rfl) rfl ?_ ?_
             ·go_simp;(try simp only [i64_w])
              first|rfl|(have c6:(⟨#[40]⟩:ByteArray).size=1:=rfl;have c8:(⟨#[41]⟩:ByteArray).size=1:=rfl;have d0:(⟨#[33]⟩:ByteArray).size=1:=rfl;simp only [ByteArray.size_append,ByteArray.size_extract,decide_eq_true_eq] at*;omega)|skip
             refine hK.out _ _ ⟨a6,adz_v119,m8_,(by rw [ha.out];exact putSel_upk 6 hb_ rfl rfl rfl),fun h0_=>absurd ((hon 3 zqk).symm.trans h0_) (by decide),Q_HK,Q_HB,fun _ h1_=>absurd ((hon 7 zqk).symm.trans h1_) (by decide),Q_HO120,Q_HA_HO120,Q_HI0_e7,Q_HI0_e14,Q_X8_⟩
            refine steps_cons ?_ ?_
            ·rintro b a w' ⟨a6,adz_v119,m8_,ha,Q_HI0,Q_HK,Q_HB,Q_HI0_e3,Q_HO120,Q_HA_HO120,Q_HI0_e7,Q_HI0_e14,Q_X8_⟩ hb_ hon hoff;refine⟨_,rfl,fun K hK=>?_⟩;(have m4:a.tmps[29]? =some (.string ((⟨#[40]⟩:ByteArray) ++ a3)):=by rw [ha];exact putSel_on (e:=(4,29,.string ((⟨#[40]⟩:ByteArray) ++ a3))) 2 rfl rfl (hon 4 zqk) rfl);(have m6:a.tmps[34]? =some (.string (rdOf ByteArray.empty a2 a4)):=by rw [ha];exact putSel_on (e:=(9,34,.string (rdOf ByteArray.empty a2 a4))) 6 rfl rfl (hon 9 zqk) rfl);replace ha:=zqm ha;have HK:=zqm Q_HK;have HB:=zqm Q_HB;have b2:=zqm (Q_HO120 (hon 5 zqk));have HA_HO120:=zqm (Q_HA_HO120 (hon 5 zqk));refine value_ (w1:=w') (v:= .string (((⟨#[40]⟩:ByteArray) ++ a3) ++ (rdOf ByteArray.empty a2 a4))) (by rfl) rfl ?_ ?_
             ·go_simp;(try simp only [i64_w])
              first|rfl|(have c6:(⟨#[40]⟩:ByteArray).size=1:=rfl;have c8:(⟨#[41]⟩:ByteArray).size=1:=rfl;have d0:(⟨#[33]⟩:ByteArray).size=1:=rfl;simp only [ByteArray.size_append,ByteArray.size_extract,decide_eq_true_eq] at*;omega)|skip
             refine hK.out _ _ ⟨a6,adz_v119,m8_,(by rw [ha.out];exact putSel_upk 7 hb_ rfl rfl rfl),fun h0_=>absurd ((hon 3 zqk).symm.trans h0_) (by decide),Q_HK,Q_HB,fun _ h1_=>absurd ((hon 7 zqk).symm.trans h1_) (by decide),Q_HO120,Q_HA_HO120,Q_HI0_e7,Q_HI0_e14,Q_X8_⟩
            refine steps_cons ?_ ?_
            ·rintro b a w' ⟨a6,adz_v119,m8_,ha,Q_HI0,Q_HK,Q_HB,Q_HI0_e3,Q_HO120,Q_HA_HO120,Q_HI0_e7,Q_HI0_e14,Q_X8_⟩ hb_ hon hoff;refine⟨_,rfl,fun K hK=>?_⟩;(have m8:a.tmps[37]? =some (.int .i64 a1):=by rw [ha];exact(putSel_off rfl).trans rfl);replace ha:=zqm ha;have HK:=zqm Q_HK;have HB:=zqm Q_HB;refine value_ (w1:=w') (v:= .int .i64 (wrap64 (a1 - 1))) (by rfl) rfl ?_ ?_
             ·go_simp;(try simp only [i64_w])
              first|rfl|(have c6:(⟨#[40]⟩:ByteArray).size=1:=rfl;have c8:(⟨#[41]⟩:ByteArray).size=1:=rfl;have d0:(⟨#[33]⟩:ByteArray).size=1:=rfl;simp only [ByteArray.size_append,ByteArray.size_extract,decide_eq_true_eq] at*;omega)|skip
             refine hK.out _ _ ⟨a6,adz_v119,m8_,(by rw [ha.out];exact putSel_upk 8 hb_ rfl rfl rfl),Q_HI0,Q_HK,Q_HB,Q_HI0_e3,Q_HO120,Q_HA_HO120,Q_HI0_e7,fun h0_=>absurd ((hoff 14 zqk).symm.trans h0_) (by decide),Q_X8_⟩
            refine steps_cons ?_ ?_
            ·rintro b a w' ⟨a6,adz_v119,m8_,ha,Q_HI0,Q_HK,Q_HB,Q_HI0_e3,Q_HO120,Q_HA_HO120,Q_HI0_e7,Q_HI0_e14,Q_X8_⟩ hb_ hon hoff;refine⟨_,rfl,fun K hK=>?_⟩;(have h5:a.tmps[36]? =some (.pointer (some ⟨g,0,none⟩)):=by rw [ha];exact(putSel_off rfl).trans rfl);(have h6:a.tmps[38]? =some (.int .i64 (wrap64 (a1 - 1))):=by rw [ha];exact putSel_on (e:=(13,38,.int .i64 (wrap64 (a1 - 1)))) 8 rfl rfl (hon 13 zqk) rfl);replace ha:=zqm ha;have HK:=zqm Q_HK;have HB:=zqm Q_HB;have a0:=zqm (Q_HI0_e7 (hon 7 zqk) hb_);refine goes_ Tryz.func23 zqk rfl #[.pointer (some ⟨g,0,none⟩),.int .i64 (wrap64 (a1 - 1))] (by rfl) rfl rfl (by first|(simp only [List.map_toArray,List.map_cons,List.map_nil,Act.eval,Array.getD_eq_getD_getElem?,Option.getD_some,h5,h6];done)|(simp only [List.map_toArray,List.map_cons,List.map_nil,Act.eval,Array.getD_eq_getD_getElem?,Option.getD_some,h5,h6];rfl)) ?_;(with_reducible refine(ih b0 (by have:=g3.out;omega) g s0_0 c3 (wrap64 (a1 - 1)) a8 e3 w0 _ ?side1 ?side2 i8.out).mono ?_);(case side1=> exact zq10);(case side2=> exact zq11);rintro e j5 ⟨rfl,hi,hb,hk⟩;refine⟨_,rfl,?_⟩;have b8:=zqm (KeepBut.trans zq7 hk (.inl rfl));have b9:=zqm (hb);have c0:=zqm (hi);have z_HO120:=fun(h0_:b 5=true)=>(show Kd.R Kd.string 9 j5 w.heap.size (fun _=>True) a6 a2 from by first|exact(Kd.R_mono (Kd.R_keep (IsS57.apart (show IsS57 w0 _ g s0_0 c3 from by repeat(first|(with_reducible first|exact a0.out|apply IsS57.alloc|apply IsS57.drewN|apply IsS57.drew|apply IsS57.set_1)|exact a0.out)) zq51 (by decide)) hk (fun _ h=>h.2)) (fun _ h=>h.1))|exact Kd.R_mono (Kd.R_mono (Kd.R_keep (IsS57.apart (show IsS57 w0 _ g s0_0 c3 from zq10) zq51 (by decide)) hk (fun _ h=>h.2)) (fun _ h=>h.1)) (fun _ h_=>by first|trivial|exact h_|exact h_.1));clear HK HB a0;have HK:=b8;have HB:=b9;have a0:=c0;clear b8 b9 c0 hb hk hi;refine hK.out _ _ ⟨a6,adz_v119,m8_,(by rw [ha.out];exact putSel_upk 9 hb_ rfl rfl rfl),fun h0_=>absurd ((hon 3 zqk).symm.trans h0_) (by decide),zq7,zq11,fun _ h1_=>absurd ((hon 7 zqk).symm.trans h1_) (by decide),z_HO120,Q_HA_HO120,fun _ h1_=>absurd ((up_self b 14).symm.trans h1_) (by decide),fun _=>zq10,Q_X8_⟩
            refine steps_cons ?_ ?_
            ·rintro b a w' ⟨a6,adz_v119,m8_,ha,Q_HI0,Q_HK,Q_HB,Q_HI0_e3,Q_HO120,Q_HA_HO120,Q_HI0_e7,Q_HI0_e14,Q_X8_⟩ hb_ hon hoff;refine⟨_,rfl,fun K hK=>?_⟩;(have m7:a.tmps[35]? =some (.string (((⟨#[40]⟩:ByteArray) ++ a3) ++ (rdOf ByteArray.empty a2 a4))):=by rw [ha];exact putSel_on (e:=(10,35,.string (((⟨#[40]⟩:ByteArray) ++ a3) ++ (rdOf ByteArray.empty a2 a4)))) 7 rfl rfl (hon 10 zqk) rfl);(have m9:a.tmps[39]? =some (.string a8):=by rw [ha];exact putSel_on (e:=(14,39,.string a8)) 9 rfl rfl (hon 14 zqk) rfl);replace ha:=zqm ha;have HK:=zqm Q_HK;have HB:=zqm Q_HB;have b2:=zqm (Q_HO120 (hon 5 zqk));have HA_HO120:=zqm (Q_HA_HO120 (hon 5 zqk));have a0:=zqm (Q_HI0_e14 (hon 14 zqk));refine value_ (w1:=w') (v:= .string ((((⟨#[40]⟩:ByteArray) ++ a3) ++ (rdOf ByteArray.empty a2 a4)) ++ a8)) (by rfl) rfl ?_ ?_
             ·go_simp;(try simp only [i64_w])
              first|rfl|(have c6:(⟨#[40]⟩:ByteArray).size=1:=rfl;have c8:(⟨#[41]⟩:ByteArray).size=1:=rfl;have d0:(⟨#[33]⟩:ByteArray).size=1:=rfl;simp only [ByteArray.size_append,ByteArray.size_extract,decide_eq_true_eq] at*;omega)|skip
             refine hK.out _ _ ⟨a6,adz_v119,m8_,(by rw [ha.out];exact putSel_upk 10 hb_ rfl rfl rfl),fun h0_=>absurd ((hon 3 zqk).symm.trans h0_) (by decide),Q_HK,Q_HB,fun _ h1_=>absurd ((hon 7 zqk).symm.trans h1_) (by decide),Q_HO120,Q_HA_HO120,fun _ h1_=>absurd ((hon 14 zqk).symm.trans h1_) (by decide),Q_HI0_e14,Q_X8_⟩
            refine steps_cons ?_ ?_
            ·rintro b a w' ⟨a6,adz_v119,m8_,ha,Q_HI0,Q_HK,Q_HB,Q_HI0_e3,Q_HO120,Q_HA_HO120,Q_HI0_e7,Q_HI0_e14,Q_X8_⟩ hb_ hon hoff;refine⟨_,rfl,fun K hK=>?_⟩;(have n0:a.tmps[40]? =some (.string ((((⟨#[40]⟩:ByteArray) ++ a3) ++ (rdOf ByteArray.empty a2 a4)) ++ a8)):=by rw [ha];exact putSel_on (e:=(15,40,.string ((((⟨#[40]⟩:ByteArray) ++ a3) ++ (rdOf ByteArray.empty a2 a4)) ++ a8))) 10 rfl rfl (hon 15 zqk) rfl);replace ha:=zqm ha;have HK:=zqm Q_HK;have HB:=zqm Q_HB;have b2:=zqm (Q_HO120 (hon 5 zqk));have HA_HO120:=zqm (Q_HA_HO120 (hon 5 zqk));have a0:=zqm (Q_HI0_e14 (hon 14 zqk));refine value_ (w1:=w') (v:= .string (((((⟨#[40]⟩:ByteArray) ++ a3) ++ (rdOf ByteArray.empty a2 a4)) ++ a8) ++ (⟨#[41]⟩:ByteArray))) (by rfl) rfl ?_ ?_
             ·go_simp;(try simp only [i64_w])
              first|rfl|(have c6:(⟨#[40]⟩:ByteArray).size=1:=rfl;have c8:(⟨#[41]⟩:ByteArray).size=1:=rfl;have d0:(⟨#[33]⟩:ByteArray).size=1:=rfl;simp only [ByteArray.size_append,ByteArray.size_extract,decide_eq_true_eq] at*;omega)|skip
             refine hK.out _ _ ⟨a6,adz_v119,m8_,(by rw [ha.out];exact putSel_upk 11 hb_ rfl rfl rfl),fun h0_=>absurd ((hon 3 zqk).symm.trans h0_) (by decide),Q_HK,Q_HB,fun _ h1_=>absurd ((hon 7 zqk).symm.trans h1_) (by decide),Q_HO120,Q_HA_HO120,fun _ h1_=>absurd ((hon 14 zqk).symm.trans h1_) (by decide),Q_HI0_e14,Q_X8_⟩
            refine steps_cons ?_ ?_
            ·rintro b a w' ⟨a6,adz_v119,m8_,ha,Q_HI0,Q_HK,Q_HB,Q_HI0_e3,Q_HO120,Q_HA_HO120,Q_HI0_e7,Q_HI0_e14,Q_X8_⟩ hb_ hon hoff;refine⟨_,rfl,fun K hK=>?_⟩;(have n1:a.tmps[41]? =some (.string (((((⟨#[40]⟩:ByteArray) ++ a3) ++ (rdOf ByteArray.empty a2 a4)) ++ a8) ++ (⟨#[41]⟩:ByteArray))):=by rw [ha];exact putSel_on (e:=(16,41,.string (((((⟨#[40]⟩:ByteArray) ++ a3) ++ (rdOf ByteArray.empty a2 a4)) ++ a8) ++ (⟨#[41]⟩:ByteArray)))) 11 rfl rfl (hon 16 zqk) rfl);replace ha:=zqm ha;have HK:=zqm Q_HK;have HB:=zqm Q_HB;have b2:=zqm (Q_HO120 (hon 5 zqk));have HA_HO120:=zqm (Q_HA_HO120 (hon 5 zqk));have a0:=zqm (Q_HI0_e14 (hon 14 zqk));refine value_ (w1:=w') (v:= .string (((((⟨#[40]⟩:ByteArray) ++ a3) ++ (rdOf ByteArray.empty a2 a4)) ++ a8) ++ (⟨#[41]⟩:ByteArray))) (by rfl) rfl ?_ ?_
             ·go_simp;(try simp only [i64_w])
              first|rfl|(have c6:(⟨#[40]⟩:ByteArray).size=1:=rfl;have c8:(⟨#[41]⟩:ByteArray).size=1:=rfl;have d0:(⟨#[33]⟩:ByteArray).size=1:=rfl;simp only [ByteArray.size_append,ByteArray.size_extract,decide_eq_true_eq] at*;omega)|skip
             refine hK.out _ _ ⟨a6,adz_v119,m8_,(by rw [ha.out];exact putSel_upk 12 hb_ rfl rfl rfl),fun h0_=>absurd ((hon 3 zqk).symm.trans h0_) (by decide),Q_HK,Q_HB,fun _ h1_=>absurd ((hon 7 zqk).symm.trans h1_) (by decide),Q_HO120,Q_HA_HO120,fun _ h1_=>absurd ((hon 14 zqk).symm.trans h1_) (by decide),Q_HI0_e14,Q_X8_⟩
            exact steps_nil
           rintro b a n7 hall ⟨a6,adz_v119,m8_,ha,Q_HI0,Q_HK,Q_HB,Q_HI0_e3,Q_HO120,Q_HA_HO120,Q_HI0_e7,Q_HI0_e14,Q_X8_⟩;clear HB a0 HK;have hb2_:=hall 2 zqk;have hb3_:=hall 3 zqk;have hb4_:=hall 4 zqk;have hb5_:=hall 5 zqk;have hb7_:=hall 7 zqk;have hb8_:=hall 8 zqk;have hb9_:=hall 9 zqk;have hb10_:=hall 10 zqk;have hb13_:=hall 13 zqk;have hb14_:=hall 14 zqk;have hb15_:=hall 15 zqk;have hb16_:=hall 16 zqk;have hb17_:=hall 17 zqk;subst ha;obtain rfl:=Q_X8_ hb8_;simp only [putSel,hb2_,hb3_,hb4_,hb5_,hb7_,hb8_,hb9_,hb10_,hb13_,hb14_,hb15_,hb16_,hb17_,if_true,Act.put,List.setIfInBounds_toArray,List.set_cons_zero,List.set_cons_succ];clear Q_HI0;have HK:=zqm Q_HK;clear Q_HK;have HB:=zqm Q_HB;clear Q_HB Q_HI0_e3;have b2:=zqm (Q_HO120 hb5_);clear Q_HO120;have HA_HO120:=zqm (Q_HA_HO120 hb5_);clear Q_HA_HO120 Q_HI0_e7;have a0:=zqm (Q_HI0_e14 hb14_);clear Q_HI0_e14 hall hb2_ hb3_ hb4_ hb5_ hb7_ hb8_ hb9_ hb10_ hb13_ hb14_ hb15_ hb16_ hb17_;obtain⟨l9,i3⟩:=HA_HO120.out;clear HA_HO120;subst i3;try go_wp2
           go_ret
           exact⟨zq18,zq10,zq11,zq7⟩
          ·rw [if_neg e7] at H;exact absurd H (by simp)
         ·rw [if_neg e6] at H;exact absurd H (by simp)
        ·rw [if_neg d7] at H;exact absurd H (by simp)
       ·rw [if_neg f6] at H;exact absurd H (by simp)
      ·rw [if_neg f5] at H;exact absurd H (by simp)
     ·rw [if_neg e5] at H;exact absurd H (by simp)
end
section
attribute [local go_sem] max2_int min2_int max_two min_two max_three min_three max_four min_four
def spec_l20Rd_odd.f (k : Nat) (s0_0 : List Int) (s0_1 : Int) (a1 : Int) : Option (Bool × Int) := if a1 > 0 then ((spec_l20Rd_pick.f k s0_0 s0_1 a1).bind fun bt126 => (some ((bt126.1 == (wrap64 (a1 - 1))), bt126.2))) else (some (false, s0_1))
set_option maxHeartbeats 8000000 in
set_option maxRecDepth 100000 in
theorem spec_l20Rd_odd.calls (k : Nat) (g : Nat) (s0_0 : List Int) (s0_1 : Int) (a1 : Int) (r1 : Bool) (r2 : Int) (w0 w : World) (hI : IsS57 w0 w g s0_0 s0_1) (hB : Below w0.heap.size w0 w) (h : spec_l20Rd_odd.f k s0_0 s0_1 a1 = some (r1, r2)) :
  Calls Tryz.prog 25 #[.pointer (some ⟨g, 0, none⟩), .int .i64 a1] w fun e w' => e = .returned (.bool r1) ∧ IsS57 w0 w' g s0_0 r2 ∧ Below w0.heap.size w0 w' ∧ KeepBut w w' g none := by
 have HI0:=zqm hI;have HK:=zqm (KeepBut.refl w g none);have HL:=zqm hB.size;clear hI;have HW0:=zqm hB.size;have HB:=zqm hB;clear hB;have H:(if a1>0 then((spec_l20Rd_pick.f k s0_0 s0_1 a1).bind fun bt126=>(some ((bt126.1==(wrap64 (a1 - 1))),bt126.2))) else(some (false,s0_1)))=some (r1,r2):=h;clear h
 by_cases c3:a1>0
 ·rw [if_pos c3] at H;have c3b0:decide (0<a1)=true:=decide_eq_true c3;clear c3;replace H:=Option.bind_eq_some_iff.mp H;obtain⟨⟨t126,t127⟩,A40,H⟩:=H;replace H:(some ((t126==(wrap64 (a1 - 1))),t127))=some (r1,r2):=H;have A4:=zqm A40;clear A40;simp only [Option.some.injEq,Prod.mk.injEq] at H;obtain⟨rfl,rfl⟩:=H
  go_enter Tryz.func25,Tryz.ntmps25
  go_wp2_with (first|(go_at_call 24;(with_reducible refine(spec_l20Rd_pick.calls k g s0_0 s0_1 a1 t126 t127 w0 _ ?side1 ?side2 A4.out).mono ?_);(case side1=> exact zq77);(case side2=> exact zq67);rintro e w5 ⟨rfl,hi,hb,hk⟩;replace HK:=zqm (KeepBut.trans zq7 hk (.inl rfl));replace HB:=zqm (hb);replace HI0:=zqm (hi);clear hb hk hi))
  go_ret
  exact⟨zq18,zq77,zq67,zq7⟩
 ·rw [if_neg c3] at H;have c3b0:decide (0<a1)=false:=decide_eq_false c3;clear c3;simp only [Option.some.injEq,Prod.mk.injEq] at H;obtain⟨rfl,rfl⟩:=H
  go_enter Tryz.func25,Tryz.ntmps25
  go_wp2
  go_ret
  exact⟨zq18,zq77,zq67,zq7⟩
end
section
attribute [local go_sem] max2_int min2_int max_two min_two max_three min_three max_four min_four
def spec_l20Formed.j0 : Nat → Int → ByteArray → List Int → Int → Option (ByteArray × Int)
 | 0, _, _, _, _ => none
 | k + 1, x1, x5, x1000, x1001 => (spec_l20Rd_odd.f k x1000 x1001 x1).bind fun bt132 => (if bt132.1 = true then ((spec_l20Rd_pick.f k x1000 bt132.2 (x5.size : Int)).bind fun bt134 => (if 0 ≤ bt134.1 then (if bt134.1 ≤ (x5.size : Int) then ((some (([(⟨#[]⟩ : ByteArray), (⟨#[40]⟩ : ByteArray), (⟨#[41]⟩ : ByteArray), (⟨#[100]⟩ : ByteArray), (⟨#[38]⟩ : ByteArray)] : List ByteArray) : List ByteArray)).bind fun y136 => ((spec_l20Rd_pick.f k x1000 bt134.2 5).bind fun bt139 => (if 0 ≤ bt139.1 then (if bt139.1 < (y136.length : Int) then (if (x5.extract 0 (bt134.1 : Int).toNat).size + (rdOf ByteArray.empty y136 bt139.1).size ≤ 9223372036854775807 then (if 0 ≤ (wrap64 (bt134.1 + 1)) then (if (wrap64 (bt134.1 + 1)) ≤ (x5.size : Int) then (if ((x5.extract 0 (bt134.1 : Int).toNat) ++ (rdOf ByteArray.empty y136 bt139.1)).size + (x5.extract ((wrap64 (bt134.1 + 1)) : Int).toNat x5.size).size ≤ 9223372036854775807 then (some (((x5.extract 0 (bt134.1 : Int).toNat) ++ (rdOf ByteArray.empty y136 bt139.1)) ++ (x5.extract ((wrap64 (bt134.1 + 1)) : Int).toNat x5.size), bt139.2)) else (none)) else (none)) else (none)) else (none)) else (none)) else (none)))) else (none)) else (none))) else (some (x5, bt132.2)))
def spec_l20Formed.f (k : Nat) (s0_0 : List Int) (s0_1 : Int) (a1 : Int) : Option (ByteArray × Int) := (spec_l20Formula.f k s0_0 s0_1 3).bind fun bt128 => ((spec_l20Rd_pick.f k s0_0 bt128.2 8).bind fun bt130 => (if bt130.1 = 0 then (spec_l20Formed.j0 k a1 (⟨#[40, 33, 97, 124, 40, 97, 38, 40, 33, 97, 124, 98, 41, 41, 41]⟩ : ByteArray) s0_0 bt130.2) else (if bt130.1 = 1 then (spec_l20Formed.j0 k a1 (⟨#[40, 97, 124, 33, 97, 41]⟩ : ByteArray) s0_0 bt130.2) else (if bt130.1 = 2 then (spec_l20Formed.j0 k a1 (⟨#[40, 40, 97, 38, 98, 41, 124, 40, 40, 97, 38, 33, 98, 41, 124, 40, 33, 97, 124, 33, 98, 41, 41, 41]⟩ : ByteArray) s0_0 bt130.2) else (spec_l20Formed.j0 k a1 bt128.1 s0_0 bt130.2)))))
def spec_l20Formed.T11 : Bool × List (List Nat × List Nat) := (true, [([], []), ([], []), ([0, 1], [0, 1]), ([], []), ([], []), ([4], [4]), ([3, 5], [3, 5]), ([6], [6]), ([2, 7], [2, 7]), ([], []), ([], []), ([10], [10]), ([9, 11], [9, 11]), ([8, 12], [8, 12]), ([13, 5, 0, 1, 2, 3, 4, 5, 6, 7, 8, 9, 10, 11, 12, 13], [13])])
def spec_l20Formed.B11 : List Nat := [0, 0, 3, 0, 0, 16, 56, 120, 255, 0, 0, 1024, 3584, 8191, 16383]
theorem spec_l20Formed.tab11 : rtab .any (opsOf Tryz.f12 11) = spec_l20Formed.T11 := by kernel_rfl
theorem spec_l20Formed.bits11 : waitsOk spec_l20Formed.T11.2 spec_l20Formed.B11 = true := by kernel_rfl
set_option maxHeartbeats 8000000 in
set_option maxRecDepth 100000 in
theorem spec_l20Formed.calls (k : Nat) (g : Nat) (s0_0 : List Int) (s0_1 : Int) (a1 : Int) (r1 : ByteArray) (r2 : Int) (w0 w : World) (hI : IsS57 w0 w g s0_0 s0_1) (hB : Below w0.heap.size w0 w) (h : spec_l20Formed.f k s0_0 s0_1 a1 = some (r1, r2)) :
  Calls Tryz.prog 12 #[.pointer (some ⟨g, 0, none⟩), .int .i64 a1] w fun e w' => e = .returned (.string r1) ∧ IsS57 w0 w' g s0_0 r2 ∧ Below w0.heap.size w0 w' ∧ KeepBut w w' g none := by
 have a4:=zqm hI;have HK:=zqm (KeepBut.refl w g none);have HL:=zqm hB.size;clear hI;have i9:=zqm hB.size;have HB:=zqm hB;clear hB;have H:((spec_l20Formula.f k s0_0 s0_1 3).bind fun d9=>((spec_l20Rd_pick.f k s0_0 d9.2 8).bind fun b0=>(if b0.1=0 then(spec_l20Formed.j0 k a1 (⟨#[40,33,97,124,40,97,38,40,33,97,124,98,41,41,41]⟩:ByteArray) s0_0 b0.2) else(if b0.1=1 then(spec_l20Formed.j0 k a1 (⟨#[40,97,124,33,97,41]⟩:ByteArray) s0_0 b0.2) else(if b0.1=2 then(spec_l20Formed.j0 k a1 (⟨#[40,40,97,38,98,41,124,40,40,97,38,33,98,41,124,40,33,97,124,33,98,41,41,41]⟩:ByteArray) s0_0 b0.2) else(spec_l20Formed.j0 k a1 d9.1 s0_0 b0.2))))))=some (r1,r2):=h;clear h;replace H:=Option.bind_eq_some_iff.mp H;obtain⟨⟨c7,d8⟩,f5,H⟩:=H;replace H:((spec_l20Rd_pick.f k s0_0 d8 8).bind fun b0=>(if b0.1=0 then(spec_l20Formed.j0 k a1 (⟨#[40,33,97,124,40,97,38,40,33,97,124,98,41,41,41]⟩:ByteArray) s0_0 b0.2) else(if b0.1=1 then(spec_l20Formed.j0 k a1 (⟨#[40,97,124,33,97,41]⟩:ByteArray) s0_0 b0.2) else(if b0.1=2 then(spec_l20Formed.j0 k a1 (⟨#[40,40,97,38,98,41,124,40,40,97,38,33,98,41,124,40,33,97,124,33,98,41,41,41]⟩:ByteArray) s0_0 b0.2) else(spec_l20Formed.j0 k a1 c7 s0_0 b0.2)))))=some (r1,r2):=H;have A3:=zqm f5;clear f5;replace H:=Option.bind_eq_some_iff.mp H;obtain⟨⟨b1,b4⟩,f6,H⟩:=H;replace H:(if b1=0 then(spec_l20Formed.j0 k a1 (⟨#[40,33,97,124,40,97,38,40,33,97,124,98,41,41,41]⟩:ByteArray) s0_0 b4) else(if b1=1 then(spec_l20Formed.j0 k a1 (⟨#[40,97,124,33,97,41]⟩:ByteArray) s0_0 b4) else(if b1=2 then(spec_l20Formed.j0 k a1 (⟨#[40,40,97,38,98,41,124,40,40,97,38,33,98,41,124,40,33,97,124,33,98,41,41,41]⟩:ByteArray) s0_0 b4) else(spec_l20Formed.j0 k a1 c7 s0_0 b4))))=some (r1,r2):=H;have A4:=zqm f6;clear f6;have e8:=zqm H;clear H
 go_enter Tryz.func12,Tryz.ntmps12
 go_upto_block 0 with (first|((with_reducible refine gate_callee (f:=23) rfl ?_);refine goesL_ (some 8) rfl rfl Tryz.func23 zqk rfl #[.pointer (some ⟨g,0,none⟩),.int .i64 3] rfl zq3 ?_;(with_reducible refine(spec_l20Formula.calls k g s0_0 s0_1 3 c7 d8 w0 _ ?side1 ?side2 A3.out).mono ?_);(case side1=> exact zq21);(case side2=> exact zq19);rintro e w6 ⟨rfl,hi,hb,hk⟩;refine⟨_,rfl,?_⟩;replace HK:=zqm (KeepBut.trans zq7 hk (.inl rfl));replace HB:=zqm (hb);replace a4:=zqm (hi);clear hb hk hi)|((with_reducible refine gate_callee (f:=24) rfl ?_);refine goesL_ (some 10) rfl rfl Tryz.func24 zqk rfl #[.pointer (some ⟨g,0,none⟩),.int .i64 8] rfl zq3 ?_;(with_reducible refine(spec_l20Rd_pick.calls k g s0_0 d8 8 b1 b4 w0 _ ?side1 ?side2 A4.out).mono ?_);(case side1=> exact zq21);(case side2=> exact zq19);rintro e w7 ⟨rfl,hi,hb,hk⟩;refine⟨_,rfl,?_⟩;replace HK:=zqm (KeepBut.trans zq7 hk (.inl rfl));replace HB:=zqm (hb);replace a4:=zqm (hi);clear hb hk hi))
 (try simp only [Act.put,List.setIfInBounds_toArray,List.set_cons_zero,List.set_cons_succ])
 go_cut [5] (fun v5 wc=> ∃(kq:Nat) (a0:ByteArray),v5= .string a0∧Aside0 (spec_l20Formed.j0 kq a1 a0 s0_0 b4=some (r1,r2))∧Aside0 (kq≤k)∧Aside0 (IsS57 w0 wc g s0_0 b4)∧Aside0 (KeepBut w wc g none)∧Aside0 (Below w0.heap.size w0 wc))
 case first=>
  have H:=e8.out;clear e8
  by_cases c8:b1=0
  ·rw [if_pos c8] at H;have b9:(b1==0)=true:=beq_iff_eq.mpr c8;have g0:(b1 !=0)=false:=bne_eq_false_iff_eq.mpr c8;clear c8;(first|rw [b9]|(simp only [i64_w,i32_w];rw [b9])|skip);have H':=zqm H;clear H
   go_wp2
   go_meet
   case rel=>exact⟨_,((⟨#[40,33,97,124,40,97,38,40,33,97,124,98,41,41,41]⟩:ByteArray)),zq8,H',⟨zq52⟩,⟨zq21⟩,⟨zq7⟩,⟨zq19⟩⟩
  ·rw [if_neg c8] at H;have b9:(b1==0)=false:=beq_eq_false_iff_ne.mpr c8;have g0:(b1 !=0)=true:=bne_iff_ne.mpr c8;(first|rw [b9]|(simp only [i64_w,i32_w];rw [b9])|skip)
   by_cases c9:b1=1
   ·rw [if_pos c9] at H;have g1:(b1==1)=true:=beq_iff_eq.mpr c9;have g2:(b1 !=1)=false:=bne_eq_false_iff_eq.mpr c9;clear c9;have H':=zqm H;clear H
    go_wp2
    go_meet
    case rel=>exact⟨_,((⟨#[40,97,124,33,97,41]⟩:ByteArray)),zq8,H',⟨zq52⟩,⟨zq21⟩,⟨zq7⟩,⟨zq19⟩⟩
   ·rw [if_neg c9] at H;have g1:(b1==1)=false:=beq_eq_false_iff_ne.mpr c9;have g2:(b1 !=1)=true:=bne_iff_ne.mpr c9
    by_cases b8:b1=2
    ·rw [if_pos b8] at H;have f0:(b1==2)=true:=beq_iff_eq.mpr b8;have f1:(b1 !=2)=false:=bne_eq_false_iff_eq.mpr b8;clear b8;have H':=zqm H;clear H
     go_wp2
     go_meet
     case rel=>exact⟨_,((⟨#[40,40,97,38,98,41,124,40,40,97,38,33,98,41,124,40,33,97,124,33,98,41,41,41]⟩:ByteArray)),zq8,H',⟨zq52⟩,⟨zq21⟩,⟨zq7⟩,⟨zq19⟩⟩
    ·rw [if_neg b8] at H;have f0:(b1==2)=false:=beq_eq_false_iff_ne.mpr b8;have f1:(b1 !=2)=true:=bne_iff_ne.mpr b8;have H':=zqm H;clear H
     go_wp2
     go_meet
     case rel=>exact⟨_,(c7),zq8,H',⟨zq52⟩,⟨zq21⟩,⟨zq7⟩,⟨zq19⟩⟩
 case rest=>
  clear e8;obtain⟨kq,a0,rfl,HA,i8,a4,HK,HB⟩:=hcut
  cases kq with
  |zero=>exact absurd HA.out (by simp [spec_l20Formed.j0])
  |succ b6=>
   have H:=HA.out;clear HA;simp only [spec_l20Formed.j0] at H;replace H:=Option.bind_eq_some_iff.mp H;obtain⟨⟨e9,b7⟩,e5,H⟩:=H;replace H:(if e9=true then((spec_l20Rd_pick.f b6 s0_0 b7 (a0.size:Int)).bind fun a8=>(if 0≤a8.1 then(if a8.1≤(a0.size:Int) then((some (([(⟨#[]⟩:ByteArray),(⟨#[40]⟩:ByteArray),(⟨#[41]⟩:ByteArray),(⟨#[100]⟩:ByteArray),(⟨#[38]⟩:ByteArray)]:List ByteArray):List ByteArray)).bind fun a3=>((spec_l20Rd_pick.f b6 s0_0 a8.2 5).bind fun a6=>(if 0≤a6.1 then(if a6.1<(a3.length:Int) then(if(a0.extract 0 (a8.1:Int).toNat).size+(rdOf ByteArray.empty a3 a6.1).size≤9223372036854775807 then(if 0≤(wrap64 (a8.1+1)) then(if(wrap64 (a8.1+1))≤(a0.size:Int) then(if((a0.extract 0 (a8.1:Int).toNat) ++ (rdOf ByteArray.empty a3 a6.1)).size+(a0.extract ((wrap64 (a8.1+1)):Int).toNat a0.size).size≤9223372036854775807 then(some (((a0.extract 0 (a8.1:Int).toNat) ++ (rdOf ByteArray.empty a3 a6.1)) ++ (a0.extract ((wrap64 (a8.1+1)):Int).toNat a0.size),a6.2)) else(none)) else(none)) else(none)) else(none)) else(none)) else(none)))) else(none)) else(none))) else(some (a0,b7)))=some (r1,r2):=H;have e4:=zqm e5;clear e5
   by_cases e0:e9=true
   ·subst e0;(have H1:((spec_l20Rd_pick.f b6 s0_0 b7 (a0.size:Int)).bind fun a8=>(if 0≤a8.1 then(if a8.1≤(a0.size:Int) then((some (([(⟨#[]⟩:ByteArray),(⟨#[40]⟩:ByteArray),(⟨#[41]⟩:ByteArray),(⟨#[100]⟩:ByteArray),(⟨#[38]⟩:ByteArray)]:List ByteArray):List ByteArray)).bind fun a3=>((spec_l20Rd_pick.f b6 s0_0 a8.2 5).bind fun a6=>(if 0≤a6.1 then(if a6.1<(a3.length:Int) then(if(a0.extract 0 (a8.1:Int).toNat).size+(rdOf ByteArray.empty a3 a6.1).size≤9223372036854775807 then(if 0≤(wrap64 (a8.1+1)) then(if(wrap64 (a8.1+1))≤(a0.size:Int) then(if((a0.extract 0 (a8.1:Int).toNat) ++ (rdOf ByteArray.empty a3 a6.1)).size+(a0.extract ((wrap64 (a8.1+1)):Int).toNat a0.size).size≤9223372036854775807 then(some (((a0.extract 0 (a8.1:Int).toNat) ++ (rdOf ByteArray.empty a3 a6.1)) ++ (a0.extract ((wrap64 (a8.1+1)):Int).toNat a0.size),a6.2)) else(none)) else(none)) else(none)) else(none)) else(none)) else(none)))) else(none)) else(none)))=some (r1,r2):=by rw [if_pos rfl] at H;exact H);clear H;have H:=H1;clear H1;replace H:=Option.bind_eq_some_iff.mp H;obtain⟨⟨a2,b5⟩,e6,H⟩:=H;replace H:(if 0≤a2 then(if a2≤(a0.size:Int) then((some (([(⟨#[]⟩:ByteArray),(⟨#[40]⟩:ByteArray),(⟨#[41]⟩:ByteArray),(⟨#[100]⟩:ByteArray),(⟨#[38]⟩:ByteArray)]:List ByteArray):List ByteArray)).bind fun a3=>((spec_l20Rd_pick.f b6 s0_0 b5 5).bind fun a6=>(if 0≤a6.1 then(if a6.1<(a3.length:Int) then(if(a0.extract 0 (a2:Int).toNat).size+(rdOf ByteArray.empty a3 a6.1).size≤9223372036854775807 then(if 0≤(wrap64 (a2+1)) then(if(wrap64 (a2+1))≤(a0.size:Int) then(if((a0.extract 0 (a2:Int).toNat) ++ (rdOf ByteArray.empty a3 a6.1)).size+(a0.extract ((wrap64 (a2+1)):Int).toNat a0.size).size≤9223372036854775807 then(some (((a0.extract 0 (a2:Int).toNat) ++ (rdOf ByteArray.empty a3 a6.1)) ++ (a0.extract ((wrap64 (a2+1)):Int).toNat a0.size),a6.2)) else(none)) else(none)) else(none)) else(none)) else(none)) else(none)))) else(none)) else(none))=some (r1,r2):=H;have f3:=zqm e6;clear e6
    by_cases d0:0≤a2
    ·rw [if_pos d0] at H;have h0:=eq_true d0;have h1:decide (0≤a2)=true:=decide_eq_true d0;clear d0
     by_cases d1:a2≤(a0.size:Int)
     ·rw [if_pos d1] at H;have h2:=eq_true d1;have h3:decide (a2≤(a0.size:Int))=true:=decide_eq_true d1;clear d1;obtain⟨a3,c6⟩: ∃y_:List ByteArray,y_=(([(⟨#[]⟩:ByteArray),(⟨#[40]⟩:ByteArray),(⟨#[41]⟩:ByteArray),(⟨#[100]⟩:ByteArray),(⟨#[38]⟩:ByteArray)]:List ByteArray)):=⟨_,rfl⟩;replace H:((spec_l20Rd_pick.f b6 s0_0 b5 5).bind fun a6=>(if 0≤a6.1 then(if a6.1<(a3.length:Int) then(if(a0.extract 0 (a2:Int).toNat).size+(rdOf ByteArray.empty a3 a6.1).size≤9223372036854775807 then(if 0≤(wrap64 (a2+1)) then(if(wrap64 (a2+1))≤(a0.size:Int) then(if((a0.extract 0 (a2:Int).toNat) ++ (rdOf ByteArray.empty a3 a6.1)).size+(a0.extract ((wrap64 (a2+1)):Int).toNat a0.size).size≤9223372036854775807 then(some (((a0.extract 0 (a2:Int).toNat) ++ (rdOf ByteArray.empty a3 a6.1)) ++ (a0.extract ((wrap64 (a2+1)):Int).toNat a0.size),a6.2)) else(none)) else(none)) else(none)) else(none)) else(none)) else(none)))=some (r1,r2):=zqy c6 H;have c5:=zqm c6;clear c6;replace H:=Option.bind_eq_some_iff.mp H;obtain⟨⟨a5,c4⟩,e7,H⟩:=H;replace H:(if 0≤a5 then(if a5<(a3.length:Int) then(if(a0.extract 0 (a2:Int).toNat).size+(rdOf ByteArray.empty a3 a5).size≤9223372036854775807 then(if 0≤(wrap64 (a2+1)) then(if(wrap64 (a2+1))≤(a0.size:Int) then(if((a0.extract 0 (a2:Int).toNat) ++ (rdOf ByteArray.empty a3 a5)).size+(a0.extract ((wrap64 (a2+1)):Int).toNat a0.size).size≤9223372036854775807 then(some (((a0.extract 0 (a2:Int).toNat) ++ (rdOf ByteArray.empty a3 a5)) ++ (a0.extract ((wrap64 (a2+1)):Int).toNat a0.size),c4)) else(none)) else(none)) else(none)) else(none)) else(none)) else(none))=some (r1,r2):=H;have f4:=zqm e7;clear e7
      by_cases e1:0≤a5
      ·rw [if_pos e1] at H;have h4:decide (0≤a5)=true:=decide_eq_true e1;clear e1
       by_cases e2:a5<(a3.length:Int)
       ·rw [if_pos e2] at H;have h5:decide (a5<(a3.length:Int))=true:=decide_eq_true e2;clear e2
        by_cases d2:(a0.extract 0 (a2:Int).toNat).size+(rdOf ByteArray.empty a3 a5).size≤9223372036854775807
        ·rw [if_pos d2] at H;have h6:=eq_true d2;have h7:decide ((a0.extract 0 (a2:Int).toNat).size+(rdOf ByteArray.empty a3 a5).size≤9223372036854775807)=true:=decide_eq_true d2;(try have h8:(9223372036854775807<(a0.extract 0 (a2:Int).toNat).size+(rdOf ByteArray.empty a3 a5).size)=False:=eq_false (Nat.not_lt.2 d2));obtain⟨a9,b3⟩: ∃j_:Int,(wrap64 (a2+1))=j_:=⟨_,rfl⟩;(replace H:(if 0≤(a9) then(if(a9)≤(a0.size:Int) then(if((a0.extract 0 (a2:Int).toNat) ++ (rdOf ByteArray.empty a3 a5)).size+(a0.extract ((a9):Int).toNat a0.size).size≤9223372036854775807 then(some (((a0.extract 0 (a2:Int).toNat) ++ (rdOf ByteArray.empty a3 a5)) ++ (a0.extract ((a9):Int).toNat a0.size),c4)) else(none)) else(none)) else(none))=some (r1,r2):=by first|(rw [b3] at H;exact H)|(simp only [b3] at H ⊢;exact H));(try rw [b3] at e4);(try rw [b3] at f3);(try rw [b3] at f4);have g8:(IntKind.i64.wrap (a2+1))=a9:=(i64_w _).trans b3
         by_cases d3:0≤(a9)
         ·rw [if_pos d3] at H;have h9:=eq_true d3;have i0:decide (0≤(a9))=true:=decide_eq_true d3;clear d3
          by_cases d4:(a9)≤(a0.size:Int)
          ·rw [if_pos d4] at H;have i1:=eq_true d4;have i2:decide ((a9)≤(a0.size:Int))=true:=decide_eq_true d4;clear d4
           by_cases d5:((a0.extract 0 (a2:Int).toNat) ++ (rdOf ByteArray.empty a3 a5)).size+(a0.extract ((a9):Int).toNat a0.size).size≤9223372036854775807
           ·rw [if_pos d5] at H;have i3:=eq_true d5;have i4:decide (((a0.extract 0 (a2:Int).toNat) ++ (rdOf ByteArray.empty a3 a5)).size+(a0.extract ((a9):Int).toNat a0.size).size≤9223372036854775807)=true:=decide_eq_true d5;(try have i5:(9223372036854775807<((a0.extract 0 (a2:Int).toNat) ++ (rdOf ByteArray.empty a3 a5)).size+(a0.extract ((a9):Int).toNat a0.size).size)=False:=eq_false (Nat.not_lt.2 d5));simp only [Option.some.injEq,Prod.mk.injEq] at H;obtain⟨rfl,rfl⟩:=H;(try go_wp2_with (first|((with_reducible refine gate_callee (f:=25) rfl ?_);refine goesL_ (some 19) rfl rfl Tryz.func25 zqk rfl #[.pointer (some ⟨g,0,none⟩),.int .i64 a1] rfl zq3 ?_;(with_reducible refine(spec_l20Rd_odd.calls b6 g s0_0 b4 a1 true b7 w0 _ ?side1 ?side2 e4.out).mono ?_);(case side1=> exact zq21);(case side2=> exact zq19);rintro e k2 ⟨rfl,hi,hb,hk⟩;refine⟨_,rfl,?_⟩;replace HK:=zqm (KeepBut.trans zq7 hk (.inl rfl));replace HB:=zqm (hb);replace a4:=zqm (hi);clear hb hk hi)|((with_reducible refine gate_callee (f:=24) rfl ?_);refine goesL_ (some 23) rfl rfl Tryz.func24 zqk rfl #[.pointer (some ⟨g,0,none⟩),.int .i64 (a0.size:Int)] rfl zq3 ?_;(with_reducible refine(spec_l20Rd_pick.calls b6 g s0_0 b7 (a0.size:Int) a2 b5 w0 _ ?side1 ?side2 f3.out).mono ?_);(case side1=> exact zq21);(case side2=> exact zq19);rintro e g9 ⟨rfl,hi,hb,hk⟩;refine⟨_,rfl,?_⟩;replace HK:=zqm (KeepBut.trans zq7 hk (.inl rfl));replace HB:=zqm (hb);replace a4:=zqm (hi);clear hb hk hi)));have pi141:(0≤(a5:Int))=True:=eq_true (zqo);have f2:(a5<(a3.length:Int))=True:=eq_true (zqo);replace a4:=zqm (IsS57.drew a4.out);replace HK:=zqm (keep_drew HK.out);replace HB:=zqm (below_drew1 HB.out);refine start_ (n:=15) (S:=fun w'=>True) (ds:= []) (zqb 15 0) zqk rfl rfl trivial (fun hHeld=>?_);refine with_tabW spec_l20Formed.tab11 spec_l20Formed.bits11 (fun HT_ HW_=>?_);generalize g9.drew=k3 at a4 HK HB hHeld ⊢;refine zqp 0 24 (zqb 15 1) HT_ ?_;refine zqp 1 25 (zqb 15 3) HT_ ?_;refine zqp 4 28 (zqb 15 19) HT_ ?_;refine zqp 9 33 (zqb 15 531) HT_ ?_;refine zqp 10 34 (zqb 15 1555) HT_ ?_;refine inv_at [2,3,5,6,7,8,11,12,13,14] (fun a0_ b a w'=> ∃(a7:Value) (adz_v137:Addr) (m6_:Value),a=putSel a0_ b [(2,26,.string (a0.extract 0 (a2:Int).toNat)),(3,27,a7),(5,29,.int .i64 a5),(6,30,m6_),(7,31,.string (rdOf ByteArray.empty a3 a5)),(8,32,.string ((a0.extract 0 (a2:Int).toNat) ++ (rdOf ByteArray.empty a3 a5))),(11,35,.int .i64 a9),(12,36,.string (a0.extract ((a9):Int).toNat a0.size)),(13,37,.string (((a0.extract 0 (a2:Int).toNat) ++ (rdOf ByteArray.empty a3 a5)) ++ (a0.extract ((a9):Int).toNat a0.size))),(14,4,.string (((a0.extract 0 (a2:Int).toNat) ++ (rdOf ByteArray.empty a3 a5)) ++ (a0.extract ((a9):Int).toNat a0.size)))]∧(b 5=false→IsS57 w0 w' g s0_0 b5)∧(KeepBut w w' g none)∧(Below w0.heap.size w0 w')∧(b 3=true→Kd.R Kd.string 9 w' w.heap.size (fun _=>True) a7 a3)∧(b 3=true→ ∃c_,(a7:Value)= .slice (some adz_v137) a3.length c_)∧(b 5=true→IsS57 w0 w' g s0_0 c4)∧(b 6=true→(m6_:Value)= .pointer (some (adz_v137.add (a5).toNat)))) HT_.out HW_.out zqk zqk ?_ ?_ ?_
            ·exact⟨.bool false,⟨0,0,none⟩,.bool false,by simp only [putSel,Bool.false_eq_true,if_false],fun _=>a4.out,HK.out,HB.out,fun h_=>absurd h_ (by decide),fun h_=>absurd h_ (by decide),fun h_=>absurd h_ (by decide),fun h_=>absurd h_ (by decide)⟩
            ·skip
             clear HB a4 HK;refine steps_cons ?_ ?_
             ·rintro b a w' ⟨a7,adz_v137,m6_,ha,Q_HI0,Q_HK,Q_HB,Q_HO138,Q_HA_HO138,Q_HI0_e5,Q_X6_⟩ hb_ hon hoff;refine⟨_,rfl,fun K hK=>?_⟩;(have j1:a.tmps[24]? =some (.string a0):=by rw [ha];exact(putSel_off rfl).trans rfl);(have j2:a.tmps[25]? =some (.int .i64 a2):=by rw [ha];exact(putSel_off rfl).trans rfl);replace ha:=zqm ha;have HK:=zqm Q_HK;have HB:=zqm Q_HB;refine value_ (w1:=w') (v:= .string (a0.extract 0 (a2:Int).toNat)) (by rfl) rfl ?_ ?_
              ·go_simp;(try simp only [i64_w])
               first|rfl|(have c0:(⟨#[40]⟩:ByteArray).size=1:=rfl;have c1:(⟨#[41]⟩:ByteArray).size=1:=rfl;have c2:(⟨#[33]⟩:ByteArray).size=1:=rfl;simp only [ByteArray.size_append,ByteArray.size_extract,decide_eq_true_eq] at*;omega)|skip
              refine hK.out _ _ ⟨a7,adz_v137,m6_,(by rw [ha.out];exact putSel_upk 0 hb_ rfl rfl rfl),Q_HI0,Q_HK,Q_HB,Q_HO138,Q_HA_HO138,Q_HI0_e5,Q_X6_⟩
             refine steps_cons ?_ ?_
             ·rintro b a w' ⟨a7,adz_v137,m6_,ha,Q_HI0,Q_HK,Q_HB,Q_HO138,Q_HA_HO138,Q_HI0_e5,Q_X6_⟩ hb_ hon hoff;refine⟨_,rfl,fun K hK=>?_⟩;replace ha:=zqm ha;have HK:=zqm Q_HK;have HB:=zqm Q_HB;refine Kd.R_lit_step Kd.string _ 9 ?hg (N:=27) ?hd (xs:=([(⟨#[]⟩:ByteArray),(⟨#[40]⟩:ByteArray),(⟨#[41]⟩:ByteArray),(⟨#[100]⟩:ByteArray),(⟨#[38]⟩:ByteArray)]:List ByteArray)) (inner:= [.string (⟨#[]⟩:ByteArray),.string (⟨#[40]⟩:ByteArray),.string (⟨#[41]⟩:ByteArray),.string (⟨#[100]⟩:ByteArray),.string (⟨#[38]⟩:ByteArray)]) (ok:=fun _=>True) (okp:=fun _=>True) ?hr ?hp (fun _ hk=>hk) trivial (Below.refl _ _) (Nat.le_refl _) (by simp) ?_;(case hd=>rfl);(case hg=>rfl);(case hr=> exact zq16);(case hp=>exact(Reps.one (show Kd.M Kd.string _ _ _ (⟨#[]⟩:ByteArray) [.string (⟨#[]⟩:ByteArray)] from rfl) (Reps.one (show Kd.M Kd.string _ _ _ (⟨#[40]⟩:ByteArray) [.string (⟨#[40]⟩:ByteArray)] from rfl) (Reps.one (show Kd.M Kd.string _ _ _ (⟨#[41]⟩:ByteArray) [.string (⟨#[41]⟩:ByteArray)] from rfl) (Reps.one (show Kd.M Kd.string _ _ _ (⟨#[100]⟩:ByteArray) [.string (⟨#[100]⟩:ByteArray)] from rfl) (Reps.one (show Kd.M Kd.string _ _ _ (⟨#[38]⟩:ByteArray) [.string (⟨#[38]⟩:ByteArray)] from rfl) (Reps.none _ _)))))));intro a7 e3 c3 hb hg_ hnew_;clear hg_ hnew_;(first|rw [← c5.out] at c3|(simp only [Int.reduceToNat] at c3;rw [← c5.out] at c3));have d6:=zqm (Kd.R_lower c3 (keep_size (w:=w) (g:=g) (row:=none) zq7));have d7:=zqm (KeepBut.trans zq7 (KeepBut.of_below hb g none) (.inl rfl));have f9:=zqm (below_step zq5 hb);have z_HI0:=fun(h0_:b 5=false)=>(show IsS57 w0 e3 g s0_0 b5 from by first|exact(IsS57.below zq101 hb));have z_HI0_e5:=fun(h0_:b 5=true)=>(show IsS57 w0 e3 g s0_0 c4 from by first|exact(IsS57.below (by repeat(first|(with_reducible first|exact(Q_HI0_e5 h0_)|apply IsS57.alloc|apply IsS57.drewN|apply IsS57.drew|apply IsS57.set_1)|exact(Q_HI0_e5 h0_))) hb));clear HK HB;have b2:=d6;have HK:=d7;have HB:=f9;clear d6 d7 f9 hb c3;obtain⟨i6,g3,g4⟩:=Kd.R_slice b2.out;subst g4;obtain⟨ado29,fo29,_⟩:=Kd.at_string (Kd.R_reads' b2.out).2.2 0 (by decide) (by rw [c5.out];simp)
              cases fo29
              refine hK.out _ _ ⟨.slice (some ado29) a3.length g3,ado29,m6_,(by rw [ha.out];exact putSel_upk 1 hb_ rfl rfl rfl),z_HI0,zq7,zq5,fun _=>zq116,fun _=>⟨_,rfl⟩,z_HI0_e5,fun h0_=>absurd ((hoff 6 zqk).symm.trans h0_) (by decide)⟩
             refine steps_cons ?_ ?_
             ·rintro b a w' ⟨a7,adz_v137,m6_,ha,Q_HI0,Q_HK,Q_HB,Q_HO138,Q_HA_HO138,Q_HI0_e5,Q_X6_⟩ hb_ hon hoff;refine⟨_,rfl,fun K hK=>?_⟩;(have f7:a.tmps[28]? =some (.pointer (some ⟨g,0,none⟩)):=by rw [ha];exact(putSel_off rfl).trans rfl);replace ha:=zqm ha;have a4:=zqm (Q_HI0 hb_);have HK:=zqm Q_HK;have HB:=zqm Q_HB;refine goes_ Tryz.func24 zqk rfl #[.pointer (some ⟨g,0,none⟩),.int .i64 5] (by rfl) rfl rfl (by first|(simp only [List.map_toArray,List.map_cons,List.map_nil,Act.eval,Array.getD_eq_getD_getElem?,Option.getD_some,f7];done)|(simp only [List.map_toArray,List.map_cons,List.map_nil,Act.eval,Array.getD_eq_getD_getElem?,Option.getD_some,f7];rfl)) ?_;(with_reducible refine(spec_l20Rd_pick.calls b6 g s0_0 b5 5 a5 c4 w0 _ ?side1 ?side2 f4.out).mono ?_);(case side1=> exact zq21);(case side2=> exact zq19);rintro e e3 ⟨rfl,hi,hb,hk⟩;refine⟨_,rfl,?_⟩;have d6:=zqm (KeepBut.trans zq7 hk (.inl rfl));have f8:=zqm (hb);have d7:=zqm (hi);have z_HO138:=fun(h0_:b 3=true)=>(show Kd.R Kd.string 9 e3 w.heap.size (fun _=>True) a7 a3 from by first|exact(Kd.R_mono (Kd.R_keep (IsS57.apart (show IsS57 w0 _ g s0_0 b5 from by repeat(first|(with_reducible first|exact a4.out|apply IsS57.alloc|apply IsS57.drewN|apply IsS57.drew|apply IsS57.set_1)|exact a4.out)) zq113 (by decide)) hk (fun _ h=>h.2)) (fun _ h=>h.1))|exact Kd.R_mono (Kd.R_mono (Kd.R_keep (IsS57.apart (show IsS57 w0 _ g s0_0 b5 from zq21) zq113 (by decide)) hk (fun _ h=>h.2)) (fun _ h=>h.1)) (fun _ h_=>by first|trivial|exact h_|exact h_.1));clear HK HB a4;have HK:=d6;have HB:=f8;have a4:=d7;clear d6 f8 d7 hb hk hi;refine hK.out _ _ ⟨a7,adz_v137,m6_,(by rw [ha.out];exact putSel_upk 2 hb_ rfl rfl rfl),fun h0_=>absurd ((up_self b 5).symm.trans h0_) (by decide),zq7,zq19,z_HO138,Q_HA_HO138,fun _=>zq21,fun h0_=>absurd ((hoff 6 zqk).symm.trans h0_) (by decide)⟩
             refine steps_cons ?_ ?_
             ·rintro b a w' ⟨a7,adz_v137,m6_,ha,Q_HI0,Q_HK,Q_HB,Q_HO138,Q_HA_HO138,Q_HI0_e5,Q_X6_⟩ hb_ hon hoff;refine⟨_,rfl,fun K hK=>?_⟩;(have g6:a.tmps[27]? =some (a7):=by rw [ha];exact putSel_on (e:=(3,27,a7)) 1 rfl rfl (hon 3 zqk) rfl);(have j4:a.tmps[29]? =some (.int .i64 a5):=by rw [ha];exact putSel_on (e:=(5,29,.int .i64 a5)) 2 rfl rfl (hon 5 zqk) rfl);replace ha:=zqm ha;have HK:=zqm Q_HK;have HB:=zqm Q_HB;have b2:=zqm (Q_HO138 (hon 3 zqk));have HA_HO138:=zqm (Q_HA_HO138 (hon 3 zqk));have a4:=zqm (Q_HI0_e5 (hon 5 zqk));obtain⟨c_,hv_⟩:=HA_HO138.out;rw [hv_] at g6;refine value_ (w1:=w') (v:= .pointer (some (adz_v137.add (a5).toNat))) (by rfl) rfl ?_ ?_
              ·go_simp;(try simp only [i64_w])
               first|rfl|(have c0:(⟨#[40]⟩:ByteArray).size=1:=rfl;have c1:(⟨#[41]⟩:ByteArray).size=1:=rfl;have c2:(⟨#[33]⟩:ByteArray).size=1:=rfl;simp only [ByteArray.size_append,ByteArray.size_extract,decide_eq_true_eq] at*;omega)|skip
              refine hK.out _ _ ⟨a7,adz_v137,(.pointer (some (adz_v137.add (a5).toNat))),(by rw [ha.out];exact putSel_upk 3 hb_ rfl rfl rfl),fun h0_=>absurd ((hon 5 zqk).symm.trans h0_) (by decide),Q_HK,Q_HB,Q_HO138,Q_HA_HO138,Q_HI0_e5,fun _=>rfl⟩
             refine steps_cons ?_ ?_
             ·rintro b a w' ⟨a7,adz_v137,m6_,ha,Q_HI0,Q_HK,Q_HB,Q_HO138,Q_HA_HO138,Q_HI0_e5,Q_X6_⟩ hb_ hon hoff;refine⟨_,rfl,fun K hK=>?_⟩;(have g7:a.tmps[30]? =some (m6_):=by rw [ha];exact putSel_on (e:=(6,30,m6_)) 3 rfl rfl (hon 6 zqk) rfl);rw [Q_X6_ (hon 6 zqk)] at g7;replace ha:=zqm ha;have HK:=zqm Q_HK;have HB:=zqm Q_HB;have b2:=zqm (Q_HO138 (hon 3 zqk));have HA_HO138:=zqm (Q_HA_HO138 (hon 3 zqk));have a4:=zqm (Q_HI0_e5 (hon 5 zqk));obtain⟨c_,hv_⟩:=HA_HO138.out;have hF_:=b2.out;rw [hv_] at hF_;obtain⟨ad_,ea_,hx_⟩:=Kd.at_string (Kd.R_reads' hF_).2.2 a5 (of_eq_true pi141) (of_eq_true f2)
              cases ea_
              refine value_ (w1:=w') (v:= .string (rdOf ByteArray.empty a3 a5)) (by rfl) rfl ?_ ?_
              ·go_simp;(try simp only [i64_w])
               first|rfl|(have c0:(⟨#[40]⟩:ByteArray).size=1:=rfl;have c1:(⟨#[41]⟩:ByteArray).size=1:=rfl;have c2:(⟨#[33]⟩:ByteArray).size=1:=rfl;simp only [ByteArray.size_append,ByteArray.size_extract,decide_eq_true_eq] at*;omega)|skip
              refine hK.out _ _ ⟨a7,adz_v137,m6_,(by rw [ha.out];exact putSel_upk 4 hb_ rfl rfl rfl),fun h0_=>absurd ((hon 5 zqk).symm.trans h0_) (by decide),Q_HK,Q_HB,Q_HO138,Q_HA_HO138,Q_HI0_e5,Q_X6_⟩
             refine steps_cons ?_ ?_
             ·rintro b a w' ⟨a7,adz_v137,m6_,ha,Q_HI0,Q_HK,Q_HB,Q_HO138,Q_HA_HO138,Q_HI0_e5,Q_X6_⟩ hb_ hon hoff;refine⟨_,rfl,fun K hK=>?_⟩;(have j3:a.tmps[26]? =some (.string (a0.extract 0 (a2:Int).toNat)):=by rw [ha];exact putSel_on (e:=(2,26,.string (a0.extract 0 (a2:Int).toNat))) 0 rfl rfl (hon 2 zqk) rfl);(have j5:a.tmps[31]? =some (.string (rdOf ByteArray.empty a3 a5)):=by rw [ha];exact putSel_on (e:=(7,31,.string (rdOf ByteArray.empty a3 a5))) 4 rfl rfl (hon 7 zqk) rfl);replace ha:=zqm ha;have HK:=zqm Q_HK;have HB:=zqm Q_HB;have b2:=zqm (Q_HO138 (hon 3 zqk));have HA_HO138:=zqm (Q_HA_HO138 (hon 3 zqk));have a4:=zqm (Q_HI0_e5 (hon 5 zqk));refine value_ (w1:=w') (v:= .string ((a0.extract 0 (a2:Int).toNat) ++ (rdOf ByteArray.empty a3 a5))) (by rfl) rfl ?_ ?_
              ·go_simp;(try simp only [i64_w])
               first|rfl|(have c0:(⟨#[40]⟩:ByteArray).size=1:=rfl;have c1:(⟨#[41]⟩:ByteArray).size=1:=rfl;have c2:(⟨#[33]⟩:ByteArray).size=1:=rfl;simp only [ByteArray.size_append,ByteArray.size_extract,decide_eq_true_eq] at*;omega)|skip
              refine hK.out _ _ ⟨a7,adz_v137,m6_,(by rw [ha.out];exact putSel_upk 5 hb_ rfl rfl rfl),fun h0_=>absurd ((hon 5 zqk).symm.trans h0_) (by decide),Q_HK,Q_HB,Q_HO138,Q_HA_HO138,Q_HI0_e5,Q_X6_⟩
             refine steps_cons ?_ ?_
             ·rintro b a w' ⟨a7,adz_v137,m6_,ha,Q_HI0,Q_HK,Q_HB,Q_HO138,Q_HA_HO138,Q_HI0_e5,Q_X6_⟩ hb_ hon hoff;refine⟨_,rfl,fun K hK=>?_⟩;(have j8:a.tmps[34]? =some (.int .i64 a2):=by rw [ha];exact(putSel_off rfl).trans rfl);replace ha:=zqm ha;have HK:=zqm Q_HK;have HB:=zqm Q_HB;refine value_ (w1:=w') (v:= .int .i64 a9) (by rfl) rfl ?_ ?_
              ·go_simp;(try simp only [i64_w])
               first|rfl|(have c0:(⟨#[40]⟩:ByteArray).size=1:=rfl;have c1:(⟨#[41]⟩:ByteArray).size=1:=rfl;have c2:(⟨#[33]⟩:ByteArray).size=1:=rfl;simp only [ByteArray.size_append,ByteArray.size_extract,decide_eq_true_eq] at*;omega)|skip
              refine hK.out _ _ ⟨a7,adz_v137,m6_,(by rw [ha.out];exact putSel_upk 6 hb_ rfl rfl rfl),Q_HI0,Q_HK,Q_HB,Q_HO138,Q_HA_HO138,Q_HI0_e5,Q_X6_⟩
             refine steps_cons ?_ ?_
             ·rintro b a w' ⟨a7,adz_v137,m6_,ha,Q_HI0,Q_HK,Q_HB,Q_HO138,Q_HA_HO138,Q_HI0_e5,Q_X6_⟩ hb_ hon hoff;refine⟨_,rfl,fun K hK=>?_⟩;(have j7:a.tmps[33]? =some (.string a0):=by rw [ha];exact(putSel_off rfl).trans rfl);(have j9:a.tmps[35]? =some (.int .i64 a9):=by rw [ha];exact putSel_on (e:=(11,35,.int .i64 a9)) 6 rfl rfl (hon 11 zqk) rfl);replace ha:=zqm ha;have HK:=zqm Q_HK;have HB:=zqm Q_HB;refine value_ (w1:=w') (v:= .string (a0.extract ((a9):Int).toNat a0.size)) (by rfl) rfl ?_ ?_
              ·go_simp;(try simp only [i64_w])
               first|rfl|(have c0:(⟨#[40]⟩:ByteArray).size=1:=rfl;have c1:(⟨#[41]⟩:ByteArray).size=1:=rfl;have c2:(⟨#[33]⟩:ByteArray).size=1:=rfl;simp only [ByteArray.size_append,ByteArray.size_extract,decide_eq_true_eq] at*;omega)|skip
              refine hK.out _ _ ⟨a7,adz_v137,m6_,(by rw [ha.out];exact putSel_upk 7 hb_ rfl rfl rfl),Q_HI0,Q_HK,Q_HB,Q_HO138,Q_HA_HO138,Q_HI0_e5,Q_X6_⟩
             refine steps_cons ?_ ?_
             ·rintro b a w' ⟨a7,adz_v137,m6_,ha,Q_HI0,Q_HK,Q_HB,Q_HO138,Q_HA_HO138,Q_HI0_e5,Q_X6_⟩ hb_ hon hoff;refine⟨_,rfl,fun K hK=>?_⟩;(have j6:a.tmps[32]? =some (.string ((a0.extract 0 (a2:Int).toNat) ++ (rdOf ByteArray.empty a3 a5))):=by rw [ha];exact putSel_on (e:=(8,32,.string ((a0.extract 0 (a2:Int).toNat) ++ (rdOf ByteArray.empty a3 a5)))) 5 rfl rfl (hon 8 zqk) rfl);(have k0:a.tmps[36]? =some (.string (a0.extract ((a9):Int).toNat a0.size)):=by rw [ha];exact putSel_on (e:=(12,36,.string (a0.extract ((a9):Int).toNat a0.size))) 7 rfl rfl (hon 12 zqk) rfl);replace ha:=zqm ha;have HK:=zqm Q_HK;have HB:=zqm Q_HB;have b2:=zqm (Q_HO138 (hon 3 zqk));have HA_HO138:=zqm (Q_HA_HO138 (hon 3 zqk));have a4:=zqm (Q_HI0_e5 (hon 5 zqk));refine value_ (w1:=w') (v:= .string (((a0.extract 0 (a2:Int).toNat) ++ (rdOf ByteArray.empty a3 a5)) ++ (a0.extract ((a9):Int).toNat a0.size))) (by rfl) rfl ?_ ?_
              ·go_simp;(try simp only [i64_w])
               first|rfl|(have c0:(⟨#[40]⟩:ByteArray).size=1:=rfl;have c1:(⟨#[41]⟩:ByteArray).size=1:=rfl;have c2:(⟨#[33]⟩:ByteArray).size=1:=rfl;simp only [ByteArray.size_append,ByteArray.size_extract,decide_eq_true_eq] at*;omega)|skip
              refine hK.out _ _ ⟨a7,adz_v137,m6_,(by rw [ha.out];exact putSel_upk 8 hb_ rfl rfl rfl),fun h0_=>absurd ((hon 5 zqk).symm.trans h0_) (by decide),Q_HK,Q_HB,Q_HO138,Q_HA_HO138,Q_HI0_e5,Q_X6_⟩
             refine steps_cons ?_ ?_
             ·rintro b a w' ⟨a7,adz_v137,m6_,ha,Q_HI0,Q_HK,Q_HB,Q_HO138,Q_HA_HO138,Q_HI0_e5,Q_X6_⟩ hb_ hon hoff;refine⟨_,rfl,fun K hK=>?_⟩;(have k1:a.tmps[37]? =some (.string (((a0.extract 0 (a2:Int).toNat) ++ (rdOf ByteArray.empty a3 a5)) ++ (a0.extract ((a9):Int).toNat a0.size))):=by rw [ha];exact putSel_on (e:=(13,37,.string (((a0.extract 0 (a2:Int).toNat) ++ (rdOf ByteArray.empty a3 a5)) ++ (a0.extract ((a9):Int).toNat a0.size)))) 8 rfl rfl (hon 13 zqk) rfl);replace ha:=zqm ha;have HK:=zqm Q_HK;have HB:=zqm Q_HB;have b2:=zqm (Q_HO138 (hon 3 zqk));have HA_HO138:=zqm (Q_HA_HO138 (hon 3 zqk));have a4:=zqm (Q_HI0_e5 (hon 5 zqk));refine value_ (w1:=w') (v:= .string (((a0.extract 0 (a2:Int).toNat) ++ (rdOf ByteArray.empty a3 a5)) ++ (a0.extract ((a9):Int).toNat a0.size))) (by rfl) rfl ?_ ?_
              ·go_simp;(try simp only [i64_w])
               first|rfl|(have c0:(⟨#[40]⟩:ByteArray).size=1:=rfl;have c1:(⟨#[41]⟩:ByteArray).size=1:=rfl;have c2:(⟨#[33]⟩:ByteArray).size=1:=rfl;simp only [ByteArray.size_append,ByteArray.size_extract,decide_eq_true_eq] at*;omega)|skip
              refine hK.out _ _ ⟨a7,adz_v137,m6_,(by rw [ha.out];exact putSel_upk 9 hb_ rfl rfl rfl),fun h0_=>absurd ((hon 5 zqk).symm.trans h0_) (by decide),Q_HK,Q_HB,Q_HO138,Q_HA_HO138,Q_HI0_e5,Q_X6_⟩
             exact steps_nil
            rintro b a k4 hall ⟨a7,adz_v137,m6_,ha,Q_HI0,Q_HK,Q_HB,Q_HO138,Q_HA_HO138,Q_HI0_e5,Q_X6_⟩;clear HB a4 HK;have hb2_:=hall 2 zqk;have hb3_:=hall 3 zqk;have hb5_:=hall 5 zqk;have hb6_:=hall 6 zqk;have hb7_:=hall 7 zqk;have hb8_:=hall 8 zqk;have hb11_:=hall 11 zqk;have hb12_:=hall 12 zqk;have hb13_:=hall 13 zqk;have hb14_:=hall 14 zqk;subst ha;obtain rfl:=Q_X6_ hb6_;simp only [putSel,hb2_,hb3_,hb5_,hb6_,hb7_,hb8_,hb11_,hb12_,hb13_,hb14_,if_true,Act.put,List.setIfInBounds_toArray,List.set_cons_zero,List.set_cons_succ];clear Q_HI0;have HK:=zqm Q_HK;clear Q_HK;have HB:=zqm Q_HB;clear Q_HB;have b2:=zqm (Q_HO138 hb3_);clear Q_HO138;have HA_HO138:=zqm (Q_HA_HO138 hb3_);clear Q_HA_HO138;have a4:=zqm (Q_HI0_e5 hb5_);clear Q_HI0_e5 hall hb2_ hb3_ hb5_ hb6_ hb7_ hb8_ hb11_ hb12_ hb13_ hb14_;obtain⟨i7,g5⟩:=HA_HO138.out;clear HA_HO138;subst g5;try go_wp2
            go_ret
            exact⟨by first|rfl|(simp [errW_none,errW_some] <;> rfl)|(simp only [← b3];first|rfl|(simp [errW_none,errW_some] <;> rfl))|(simp [*,errW_none,errW_some] <;> rfl),zq21,zq19,zq7⟩
           ·rw [if_neg d5] at H;exact absurd H (by simp)
          ·rw [if_neg d4] at H;exact absurd H (by simp)
         ·rw [if_neg d3] at H;exact absurd H (by simp)
        ·rw [if_neg d2] at H;exact absurd H (by simp)
       ·rw [if_neg e2] at H;exact absurd H (by simp)
      ·rw [if_neg e1] at H;exact absurd H (by simp)
     ·rw [if_neg d1] at H;exact absurd H (by simp)
    ·rw [if_neg d0] at H;exact absurd H (by simp)
   ·replace e0:=Bool.eq_false_iff.mpr e0;subst e0;(have H1:(some (a0,b7))=some (r1,r2):=by rw [if_neg (show¬(false=true) by decide)] at H;exact H);clear H;have H:=H1;clear H1;simp only [Option.some.injEq,Prod.mk.injEq] at H;obtain⟨rfl,rfl⟩:=H
    go_wp2_with (first|((with_reducible refine gate_callee (f:=25) rfl ?_);refine goesL_ (some 19) rfl rfl Tryz.func25 zqk rfl #[.pointer (some ⟨g,0,none⟩),.int .i64 a1] rfl zq3 ?_;(with_reducible refine(spec_l20Rd_odd.calls b6 g s0_0 b4 a1 false b7 w0 _ ?side1 ?side2 e4.out).mono ?_);(case side1=> exact zq21);(case side2=> exact zq19);rintro e k5 ⟨rfl,hi,hb,hk⟩;refine⟨_,rfl,?_⟩;replace HK:=zqm (KeepBut.trans zq7 hk (.inl rfl));replace HB:=zqm (hb);replace a4:=zqm (hi);clear hb hk hi))
    go_ret
    exact⟨zq18,zq21,zq19,zq7⟩
end
section
attribute [local go_sem] max2_int min2_int max_two min_two max_three min_three max_four min_four
def spec_l20Open.f (l0 : List Int) : Option (List Int × Int) := if (l0.length : Int) > 2000 then (if 2000 ≤ (l0.length : Int) then (some (l0.take 2000, 0)) else (none)) else (some (l0, 0))
set_option maxHeartbeats 8000000 in
set_option maxRecDepth 100000 in
theorem spec_l20Open.calls (A0 : Option Addr) (c0 : Nat) (l0 : List Int) (r1 : List Int) (r2 : Int) (w0 w : World) (hB : Below w0.heap.size w0 w) (hr0 : Kd.C (Kd.int .u8) w0 A0 l0.length l0) (hc0 : l0.length ≤ c0) (h : spec_l20Open.f l0 = some (r1, r2)) :
  Calls Tryz.prog 13 #[.slice A0 l0.length c0] w fun e w' => ∃ g_ : Nat, e = .returned (.pointer (some ⟨g_, 0, none⟩)) ∧ IsS57 w0 w' g_ r1 r2 ∧ Below w0.heap.size w0 w' ∧ Below w.heap.size w w' := by
 have hu57:=Tryz.underlying57;have b1:=zqm hr0;have b5:=zqm hc0;clear hr0 hc0;have HBW:=zqm (Below.refl w.heap.size w);have b2:=zqm hB.size;have HB:=zqm hB;clear hB;have H:(if(l0.length:Int)>2000 then(if 2000≤(l0.length:Int) then(some (l0.take 2000,0)) else(none)) else(some (l0,0)))=some (r1,r2):=h;clear h
 by_cases c2:(l0.length:Int)>2000
 ·rw [if_pos c2] at H;have b3:decide (2000<(l0.length:Int))=true:=decide_eq_true c2;have b4:decide (2000<l0.length)=true:=decide_eq_true (by omega);clear c2
  by_cases c3:2000≤(l0.length:Int)
  ·rw [if_pos c3] at H;have b7:=eq_true c3;have b8:decide (2000≤(l0.length:Int))=true:=decide_eq_true c3;clear c3;simp only [Option.some.injEq,Prod.mk.injEq] at H;obtain⟨rfl,rfl⟩:=H;obtain⟨i04,a5,_,hsz4,_⟩:=info_parts info5;obtain⟨hcut4,hA4,hC4⟩:=print_take_of (P:=Tryz.prog) (Value.int .u8) 0 22 5 .i64 Tryz.underlying22 a5 hsz4 A0 c0 l0 2000 (by omega) (zqo) b5.out;have b0:=zqm (Kd.C_of_reads (h1:=fun _=>rfl) (hA4 _ (Kd.reads_of_C b1.out)));have b6:=zqm hC4;clear hA4 hC4 a5 hsz4
   go_enter Tryz.func13,Tryz.ntmps13
   go_wp2_with (first|((with_reducible refine gate_dst (N:=10) rfl ?_);refine box_event ?hg (N:=10) ?hd (cs:= #[.slice A0 (l0.take 2000).length c0,.int .i64 0]) (t:=57) ?hr ?_;(case hd=>rfl);(case hg=>rfl);(case hr=> exact zq16);intro a0 hg w5 hbox hb;have a2:=zqm (below_step HBW.out hb);replace HB:=zqm (below_step zq5 hb);have a6:=zqm (hbox);have a8:=zqm ((by rw [hg];exact(below_size zq64):w.heap.size≤a0));have a3:=zqm ((Nat.le_trans b2.out (by rw [hg];exact(below_size zq64):w.heap.size≤a0):w0.heap.size≤a0));clear HBW;have HBW:=a2;clear a2 hb hbox hg))
   go_ret
   exact⟨_,rfl,(show IsS57 w0 _ a0 (l0.take 2000) 0 from ⟨_,_,zqe a6.out,a3.out,b0.out⟩),by repeat(first|(with_reducible first|exact HB.out|apply below_alloc|apply pw_below_drewN|apply below_drew1|refine below_set ?_ a3.out)|exact HB.out),by repeat(first|(with_reducible first|exact HBW.out|apply below_alloc|apply pw_below_drewN|apply below_drew1|refine below_set ?_ a8.out)|exact HBW.out)⟩
  ·rw [if_neg c3] at H;exact absurd H (by simp)
 ·rw [if_neg c2] at H;have b3:decide (2000<(l0.length:Int))=false:=decide_eq_false c2;have b4:decide (2000<l0.length)=false:=decide_eq_false (by omega);clear c2;simp only [Option.some.injEq,Prod.mk.injEq] at H;obtain⟨rfl,rfl⟩:=H
  go_enter Tryz.func13,Tryz.ntmps13
  go_wp2_with (first|((with_reducible refine gate_dst (N:=10) rfl ?_);refine box_event ?hg (N:=10) ?hd (cs:= #[.slice A0 l0.length c0,.int .i64 0]) (t:=57) ?hr ?_;(case hd=>rfl);(case hg=>rfl);(case hr=> exact zq16);intro a1 hg w6 hbox hb;have a2:=zqm (below_step HBW.out hb);replace HB:=zqm (below_step zq5 hb);have a7:=zqm (hbox);have a9:=zqm ((by rw [hg];exact(below_size zq64):w.heap.size≤a1));have a4:=zqm ((Nat.le_trans b2.out (by rw [hg];exact(below_size zq64):w.heap.size≤a1):w0.heap.size≤a1));clear HBW;have HBW:=a2;clear a2 hb hbox hg))
  go_ret
  exact⟨_,rfl,(show IsS57 w0 _ a1 l0 0 from ⟨_,_,zqe a7.out,a4.out,b1.out⟩),by repeat(first|(with_reducible first|exact HB.out|apply below_alloc|apply pw_below_drewN|apply below_drew1|refine below_set ?_ a4.out)|exact HB.out),by repeat(first|(with_reducible first|exact HBW.out|apply below_alloc|apply pw_below_drewN|apply below_drew1|refine below_set ?_ a9.out)|exact HBW.out)⟩
end
section
attribute [local go_sem] max2_int min2_int max_two min_two max_three min_three max_four min_four
def spec_DrawDualOf.f (k : Nat) (l0 : List Int) : Option (ByteArray) := (spec_l20Open.f l0).bind fun bt145 => ((spec_l20Formed.f k bt145.1 bt145.2 9).bind fun bt148 => (some bt148.1))
set_option maxHeartbeats 8000000 in
set_option maxRecDepth 100000 in
theorem spec_DrawDualOf.calls (k : Nat) (A0 : Option Addr) (c0 : Nat) (l0 : List Int) (r : ByteArray) (w : World) (hr0 : Kd.C (Kd.int .u8) w A0 l0.length l0) (hc0 : l0.length ≤ c0) (h : spec_DrawDualOf.f k l0 = some r) :
  Calls Tryz.prog 4 #[.slice A0 l0.length c0] w fun e w' => e = .returned (.string r) ∧ Below w.heap.size w w' := by
 have HR0:=zqm hr0;have HC0:=zqm hc0;clear hr0 hc0;have HB:=zqm (Below.refl w.heap.size w);have H:((spec_l20Open.f l0).bind fun bt145=>((spec_l20Formed.f k bt145.1 bt145.2 9).bind fun bt148=>(some bt148.1)))=some r:=h;clear h;replace H:=Option.bind_eq_some_iff.mp H;obtain⟨⟨t145,t146⟩,A20,H⟩:=H;(try dsimp only at H);have A2:=zqm A20;clear A20;replace H:=Option.bind_eq_some_iff.mp H;obtain⟨⟨t148,t149⟩,A30,H⟩:=H;(try dsimp only at H);have A3:=zqm A30;clear A30;obtain rfl:=Option.some.inj H
 go_enter Tryz.func4,Tryz.ntmps4
 go_wp2_with (first|((with_reducible refine gate_callee (f:=13) rfl ?_);refine goesL_ (some 4) rfl rfl Tryz.func13 zqk rfl #[.slice A0 l0.length c0] rfl zq3 ?_;(with_reducible refine(spec_l20Open.calls _ _ l0 t145 t146 w _ ?side1 ?side2 ?side3 A2.out).mono ?_);(case side1=> exact zq5);(case side2=>exact HR0.out);(case side3=>exact HC0.out);rintro e w4 ⟨g147,rfl,hi,hb,hb2⟩;refine⟨_,rfl,?_⟩;replace HB:=zqm (hb);have HI147:=zqm (hi);clear hb hb2 hi)|((with_reducible refine gate_callee (f:=12) rfl ?_);refine goesL_ (some 5) rfl rfl Tryz.func12 zqk rfl #[.pointer (some ⟨g147,0,none⟩),.int .i64 9] rfl zq3 ?_;(with_reducible refine(spec_l20Formed.calls k g147 t145 t146 9 t148 t149 w _ ?side1 ?side2 A3.out).mono ?_);(case side1=>repeat(first|(with_reducible first|exact HI147.out|apply IsS57.alloc|apply IsS57.drewN|apply IsS57.drew|apply IsS57.set_1)|exact HI147.out));(case side2=> exact zq95);rintro e w5 ⟨rfl,hi,hb,hk⟩;refine⟨_,rfl,?_⟩;replace HB:=zqm (hb);replace HI147:=zqm (hi);clear hb hk hi))
 go_ret
 exact⟨zq18,zq95⟩
end
section
attribute [local go_sem] max2_int min2_int max_two min_two max_three min_three max_four min_four
mutual
def spec_l20Sets.l0 : Nat → Int → List (List Int) → Int → Option ((List (List Int)))
 | 0, _, _, _ => none
 | k + 1, x0, x3, x4 => if 0 ≤ x0 then (if x4 < (shl .i64 1 x0) then (spec_l20Sets.l1 k x0 x3 x4 (([] : List Int)) 0) else (some x3)) else (none)
def spec_l20Sets.l1 : Nat → Int → List (List Int) → Int → List Int → Int → Option ((List (List Int)))
 | 0, _, _, _, _, _ => none
 | k + 1, x0, x3, x4, x5, x6 => if 0 ≤ x0 then (if x6 < (shl .i64 1 x0) then (if (Go.bits .and .i64 x4 x6) = x4 then (if x5.length < 17592186044416 then (spec_l20Sets.l1 k x0 x3 x4 (x5 ++ [1]) (wrap64 (x6 + 1))) else (none)) else (if x5.length < 17592186044416 then (spec_l20Sets.l1 k x0 x3 x4 (x5 ++ [0]) (wrap64 (x6 + 1))) else (none))) else (if x3.length < 5864062014805 then (spec_l20Sets.l0 k x0 (x3 ++ [x5]) (wrap64 (x4 + 1))) else (none))) else (none)
end
def spec_l20Sets.f (k : Nat) (a0 : Int) : Option ((List (List Int))) := spec_l20Sets.l0 k a0 (([] : List (List Int))) 0
theorem spec_l20Sets.mono_l : ∀ k, (∀ y0 y1 y2, LeO (spec_l20Sets.l0 k y0 y1 y2) (spec_l20Sets.l0 (k + 1) y0 y1 y2)) ∧ (∀ y0 y1 y2 y3 y4, LeO (spec_l20Sets.l1 k y0 y1 y2 y3 y4) (spec_l20Sets.l1 (k + 1) y0 y1 y2 y3 y4))
 | 0 => ⟨fun _ _ _ r h => by simp [spec_l20Sets.l0] at h, fun _ _ _ _ _ r h => by simp [spec_l20Sets.l1] at h⟩
 | k + 1 => by
  obtain ⟨ih0, ih1⟩ := spec_l20Sets.mono_l k
  refine ⟨?_, ?_⟩
  ·intro y0 y1 y2
   unfold spec_l20Sets.l0
   repeat' first
   | (with_reducible exact ih0 _ _ _)
   | (with_reducible exact ih1 _ _ _ _ _)
   | (with_reducible exact LeO.refl _)
   | (with_reducible exact LeO.none _)
   | (with_reducible refine LeO.ite ?_ ?_)
   | (with_reducible refine LeO.bind ?_ (fun _ => ?_))
   | exact ih0 _ _ _
   | exact ih1 _ _ _ _ _
   | exact LeO.none _
   | refine LeO.ite ?_ ?_
   | refine LeO.bind ?_ (fun _ => ?_)
  ·intro y0 y1 y2 y3 y4
   unfold spec_l20Sets.l1
   repeat' first
   | (with_reducible exact ih0 _ _ _)
   | (with_reducible exact ih1 _ _ _ _ _)
   | (with_reducible exact LeO.refl _)
   | (with_reducible exact LeO.none _)
   | (with_reducible refine LeO.ite ?_ ?_)
   | (with_reducible refine LeO.bind ?_ (fun _ => ?_))
   | exact ih0 _ _ _
   | exact ih1 _ _ _ _ _
   | exact LeO.none _
   | refine LeO.ite ?_ ?_
   | refine LeO.bind ?_ (fun _ => ?_)
theorem spec_l20Sets.mono : ∀ a0 k, LeO (spec_l20Sets.f k a0) (spec_l20Sets.f (k + 1) a0) := by
 intro a0 k
 obtain ⟨ih0, ih1⟩ := spec_l20Sets.mono_l k
 unfold spec_l20Sets.f
 repeat' first
   | (with_reducible exact ih0 _ _ _)
   | (with_reducible exact ih1 _ _ _ _ _)
   | (with_reducible exact LeO.refl _)
   | (with_reducible exact LeO.none _)
   | (with_reducible refine LeO.ite ?_ ?_)
   | (with_reducible refine LeO.bind ?_ (fun _ => ?_))
   | exact ih0 _ _ _
   | exact ih1 _ _ _ _ _
   | exact LeO.none _
   | refine LeO.ite ?_ ?_
   | refine LeO.bind ?_ (fun _ => ?_)
set_option maxHeartbeats 8000000 in
set_option maxRecDepth 100000 in
theorem spec_l20Sets.calls (k : Nat) (a0 : Int) (r : List (List Int)) (w : World) (h : spec_l20Sets.f k a0 = some r) :
  Calls Tryz.prog 57 #[.int .i64 a0] w fun e w' => ∃ v0_ : Value, e = .returned (v0_) ∧ Kd.S (Kd.slice 3 (Kd.int .i64)) 28 w' w.heap.size (fun _ => True) v0_ r ∧ Below w.heap.size w w' := by
 have HB:=zqm (Below.refl w.heap.size w);have H:(spec_l20Sets.l0 k a0 (([]:List (List Int))) 0)=some r:=h;clear h;obtain⟨d2,b4⟩: ∃y_:List (List Int),y_=(([]:List (List Int))):=⟨_,rfl⟩;replace H:(spec_l20Sets.l0 k a0 d2 0)=some r:=zqy b4 H;have c1:=zqm b4;clear b4;have H':=zqm H;clear H
 go_enter Tryz.func57,Tryz.ntmps57
 go_wp2_with (first|((with_reducible refine gate_dst (N:=8) rfl ?_);refine Kd.S_lit (Kd.slice 3 (Kd.int .i64)) _ 28 ?hg (N:=8) ?hd (xs:=([]:List (List Int))) (inner:= []) (ok:=fun _=>True) (okp:=fun _=>True) ?hr ?hp (fun _ hk=>hk) trivial (Below.refl _ _) (Nat.le_refl _) (by simp) ?_;(case hd=>rfl);(case hg=>rfl);(case hr=> exact zq16);(case hp=>exact(Reps.none _ _));intro f4 w2 c0 hb hg_ hnew_;clear hg_ hnew_;(first|rw [← c1.out] at c0|(simp only [Int.reduceToNat] at c0;rw [← c1.out] at c0));have d7:=zqm (Kd.S_lower c0 (below_size zq5));replace HB:=zqm (below_step zq5 hb);clear hb c0))
 go_loopg [3,4] k (fun kq v3 v4 w'=> ∃(a4:List (List Int)) (a1:Int),v4= .int .i64 a1∧Aside0 (spec_l20Sets.l0 kq a0 a4 a1=some r)∧Aside0 (kq≤k)∧Aside0 (Kd.S (Kd.slice 3 (Kd.int .i64)) 28 w' w.heap.size (fun _=>True) v3 a4)∧Aside0 (Below w.heap.size w w'))
 case atStart=>exact⟨(d2),(0),zq8,H',⟨Nat.le_refl _⟩,⟨zqfS d7.out⟩,⟨zq5⟩⟩
 case round=>
  clear H';obtain⟨a4,a1,rfl,HA,b0,HO_3,HB⟩:=hrel
  cases gk with
  |zero=>exact absurd HA.out (by simp [spec_l20Sets.l0])
  |succ k1=>
   have H:=HA.out;clear HA;simp only [spec_l20Sets.l0] at H
   by_cases c4:0≤a0
   ·rw [if_pos c4] at H;have f0:=eq_true c4;have f1:decide (0≤a0)=true:=decide_eq_true c4;clear c4;obtain⟨a6,a8⟩: ∃j_:Int,(shl .i64 1 a0)=j_:=⟨_,rfl⟩;(replace H:(if a1<(a6) then(spec_l20Sets.l1 k1 a0 a4 a1 (([]:List Int)) 0) else(some a4))=some r:=by first|(rw [a8] at H;exact H)|(simp only [a8] at H ⊢;exact H));have c8:(IntKind.i64.wrap (1*2 ^ min a0.toNat 64))=a6:=a8;have hji5z:a0≤64→(IntKind.i64.wrap (1*2 ^ a0.toNat))=a6:=shl_small a8;(have hji5u:(IntKind.i64.wrap (2 ^ min a0.toNat 64))=a6:=by have h_:=c8;rw [Int.one_mul] at h_;exact h_);(have hji5v:a0≤64→(IntKind.i64.wrap (2 ^ a0.toNat))=a6:=fun hle_=>by have h_:=hji5z hle_;rw [Int.one_mul] at h_;exact h_);have hji5y:(wrap64 (1*2 ^ min a0.toNat 64))=a6:=(i64_w _).symm.trans c8;have hji5x:a0≤64→(wrap64 (1*2 ^ a0.toNat))=a6:=fun h_=>(i64_w _).symm.trans (hji5z h_)
    by_cases c6:a1<(a6)
    ·rw [if_pos c6] at H;have e8:decide (a1<(a6))=true:=decide_eq_true c6;clear c6;obtain⟨d3,b5⟩: ∃y_:List Int,y_=(([]:List Int)):=⟨_,rfl⟩;replace H:(spec_l20Sets.l1 k1 a0 a4 a1 d3 0)=some r:=zqy b5 H;have c2:=zqm b5;clear b5;have H':=zqm H;clear H
     go_wp2_with (first|((with_reducible refine gate_dst (N:=15) rfl ?_);refine Kd.R_lit (Kd.int .i64) _ 3 ?hg (N:=15) ?hd (xs:=([]:List Int)) (inner:= []) (ok:=fun _=>True) (okp:=fun _=>True) ?hr ?hp (fun _ hk=>hk) trivial (Below.refl _ _) (Nat.le_refl _) (by simp) ?_;(case hd=>rfl);(case hg=>rfl);(case hr=> exact zq16);(case hp=>exact(Reps.none _ _));intro f5 w7 b3 hb hg_ hnew_;clear hg_ hnew_;(first|rw [← c2.out] at b3|(simp only [Int.reduceToNat] at b3;rw [← c2.out] at b3));replace HO_3:=zqm (Kd.S_elder' (zqfS HO_3.out) (Kd.R_base b3) hb);have d8:=zqm (Kd.R_lower b3 (below_size zq5));replace HB:=zqm (below_step zq5 hb);clear hb b3))
     go_loopg [5,6] k1 (fun kq v5 v6 w'=> ∃(a3:List Int) (a2:Int),v6= .int .i64 a2∧Aside0 (spec_l20Sets.l1 kq a0 a4 a1 a3 a2=some r)∧Aside0 (kq≤k1)∧Aside0 (Kd.S (Kd.slice 3 (Kd.int .i64)) 28 w' w.heap.size (fun k_=>some k_≠(v5:Value).ownBlock) u3 a4)∧Aside0 (Kd.R (Kd.int .i64) 3 w' w.heap.size (fun _=>True) v5 a3)∧Aside0 (Below w.heap.size w w'))
     case atStart=>exact⟨(d3),(0),zq8,H',⟨Nat.le_refl _⟩,⟨zq129⟩,⟨zqfR d8.out⟩,⟨zq5⟩⟩
     case round=>
      clear H';obtain⟨a3,a2,rfl,HA,b1,HO_3,HO_5,HB⟩:=hrel
      cases gk with
      |zero=>exact absurd HA.out (by simp [spec_l20Sets.l1])
      |succ k2=>
       have H:=HA.out;clear HA;simp only [spec_l20Sets.l1] at H
       by_cases c9:0≤a0
       ·rw [if_pos c9] at H;have f2:=eq_true c9;have f3:decide (0≤a0)=true:=decide_eq_true c9;clear c9;obtain⟨a5,a7⟩: ∃j_:Int,(shl .i64 1 a0)=j_:=⟨_,rfl⟩;(first|(obtain rfl:a5=a6:=a7.symm.trans a8)|skip);(replace H:(if a2<(a5) then(if(Go.bits .and .i64 a1 a2)=a1 then(if a3.length<17592186044416 then(spec_l20Sets.l1 k2 a0 a4 a1 (a3 ++ [1]) (wrap64 (a2+1))) else(none)) else(if a3.length<17592186044416 then(spec_l20Sets.l1 k2 a0 a4 a1 (a3 ++ [0]) (wrap64 (a2+1))) else(none))) else(if a4.length<5864062014805 then(spec_l20Sets.l0 k2 a0 (a4 ++ [a3]) (wrap64 (a1+1))) else(none)))=some r:=by first|(rw [a7] at H;exact H)|(simp only [a7] at H ⊢;exact H));have b9:(IntKind.i64.wrap (1*2 ^ min a0.toNat 64))=a5:=a7;have hji10z:a0≤64→(IntKind.i64.wrap (1*2 ^ a0.toNat))=a5:=shl_small a7;(have hji10u:(IntKind.i64.wrap (2 ^ min a0.toNat 64))=a5:=by have h_:=b9;rw [Int.one_mul] at h_;exact h_);(have hji10v:a0≤64→(IntKind.i64.wrap (2 ^ a0.toNat))=a5:=fun hle_=>by have h_:=hji10z hle_;rw [Int.one_mul] at h_;exact h_);have hji10y:(wrap64 (1*2 ^ min a0.toNat 64))=a5:=(i64_w _).symm.trans b9;have hji10x:a0≤64→(wrap64 (1*2 ^ a0.toNat))=a5:=fun h_=>(i64_w _).symm.trans (hji10z h_)
        by_cases b2:a2<(a5)
        ·rw [if_pos b2] at H;have e5:decide (a2<(a5))=true:=decide_eq_true b2;clear b2
         by_cases a9:(Go.bits .and .i64 a1 a2)=a1
         ·rw [if_pos a9] at H;have e6:((Go.bits .and .i64 a1 a2)==a1)=true:=beq_iff_eq.mpr a9;have e7:((Go.bits .and .i64 a1 a2) !=a1)=false:=bne_eq_false_iff_eq.mpr a9;clear a9
          by_cases c3:a3.length<17592186044416
          ·rw [if_pos c3] at H;have LMc13:=zqm c3;clear c3;obtain⟨d4,b6⟩: ∃y_:List Int,y_=(a3 ++ [1]):=⟨_,rfl⟩;replace H:(spec_l20Sets.l1 k2 a0 a4 a1 d4 (wrap64 (a2+1)))=some r:=zqy b6 H;have e2:=zqm b6;clear b6;have H':=zqm H;clear H
           go_wp2_with (first|((with_reducible refine gate_builtin (b:= .append) (xs:= #[.tmp 27,.tmp 29]) rfl ?_);at_builtin;refine Kd.R_append (Kd.int .i64) (w0:=w) w.heap.size rfl (.tmp 27) (.tmp 29) 28 3 (.int .i64 0) 8 rfl Tryz.underlying28 info3 rfl (by decide) (by omega) u5 a3 1 [.int .i64 1] (fun _=>True) (fun _=>False) rfl rfl ?aP (fun _ hk=>hk.elim) ?aF ?aO ?aB ?aS ?aL ?_;(case aP=>exact rfl);(case aB=> exact zq80);(case aF=>exact(fun _ _=>trivial));(case aO=>exact(zqfR HO_5.out));(case aS=> exact zq74);(case aL=>have:=LMc13.out;omega);intro f6 f9 ho hb hg hat;rw [← e2.out] at ho;replace HO_3:=zqm (Kd.S_after (ok:=(fun _=>True)) (by refine zqfS ?_;exact Kd.S_mono HO_3.out (fun _ hk=>⟨trivial,hk⟩)) hg hat);replace HB:=zqm (hb);have d9:=zqm (ho);clear HO_5;clear ho hb hg hat))
           go_roundg k2
           (case measure=> exact zq118);case rel=>exact⟨(d4),(wrap64 (a2+1)),zq8,H',⟨zq118⟩,⟨zq129⟩,⟨zqfR d9.out⟩,⟨zq5⟩⟩
          ·rw [if_neg c3] at H;exact absurd H (by simp)
         ·rw [if_neg a9] at H;have e6:((Go.bits .and .i64 a1 a2)==a1)=false:=beq_eq_false_iff_ne.mpr a9;have e7:((Go.bits .and .i64 a1 a2) !=a1)=true:=bne_iff_ne.mpr a9
          by_cases c5:a3.length<17592186044416
          ·rw [if_pos c5] at H;have LMc15:=zqm c5;clear c5;obtain⟨d5,b7⟩: ∃y_:List Int,y_=(a3 ++ [0]):=⟨_,rfl⟩;replace H:(spec_l20Sets.l1 k2 a0 a4 a1 d5 (wrap64 (a2+1)))=some r:=zqy b7 H;have e3:=zqm b7;clear b7;have H':=zqm H;clear H
           go_wp2_with (first|((with_reducible refine gate_builtin (b:= .append) (xs:= #[.tmp 27,.tmp 29]) rfl ?_);at_builtin;refine Kd.R_append (Kd.int .i64) (w0:=w) w.heap.size rfl (.tmp 27) (.tmp 29) 28 3 (.int .i64 0) 8 rfl Tryz.underlying28 info3 rfl (by decide) (by omega) u5 a3 0 [.int .i64 0] (fun _=>True) (fun _=>False) rfl rfl ?aP (fun _ hk=>hk.elim) ?aF ?aO ?aB ?aS ?aL ?_;(case aP=>exact rfl);(case aB=> exact zq80);(case aF=>exact(fun _ _=>trivial));(case aO=>exact(zqfR HO_5.out));(case aS=> exact zq74);(case aL=>have:=LMc15.out;omega);intro f7 g0 ho hb hg hat;rw [← e3.out] at ho;replace HO_3:=zqm (Kd.S_after (ok:=(fun _=>True)) (by refine zqfS ?_;exact Kd.S_mono HO_3.out (fun _ hk=>⟨trivial,hk⟩)) hg hat);replace HB:=zqm (hb);have e0:=zqm (ho);clear HO_5;clear ho hb hg hat))
           go_roundg k2
           (case measure=> exact zq118);case rel=>exact⟨(d5),(wrap64 (a2+1)),zq8,H',⟨zq118⟩,⟨zq129⟩,⟨zqfR e0.out⟩,⟨zq5⟩⟩
          ·rw [if_neg c5] at H;exact absurd H (by simp)
        ·rw [if_neg b2] at H;have e5:decide (a2<(a5))=false:=decide_eq_false b2;clear b2
         by_cases c7:a4.length<5864062014805
         ·rw [if_pos c7] at H;have LMc17:=zqm c7;clear c7;obtain⟨d6,b8⟩: ∃y_:List (List Int),y_=(a4 ++ [a3]):=⟨_,rfl⟩;replace H:(spec_l20Sets.l0 k2 a0 d6 (wrap64 (a1+1)))=some r:=zqy b8 H;have e4:=zqm b8;clear b8;have H':=zqm H;clear H;obtain⟨d0,d1,e9⟩:=Kd.R_slice HO_5.out;subst e9
          go_wp2_with (first|((with_reducible refine gate_builtin (b:= .append) (xs:= #[.tmp 31,.tmp 33]) rfl ?_);at_builtin;refine Kd.S_append (Kd.slice 3 (Kd.int .i64)) (w0:=w) w.heap.size rfl (.tmp 31) (.tmp 33) 27 28 (.slice none 0 0) 24 rfl Tryz.underlying27 info28 rfl (by decide) (by omega) u3 a4 a3 [.slice d0 a3.length d1] (fun _=>True) (fun k_=>some k_=(.slice d0 a3.length d1:Value).ownBlock) rfl rfl ?aP (fun k_ hk_=>((Kd.R_mono (ok':=fun k_=>((fun _=>True)) k_∧some k_≠(u3:Value).ownBlock) (Kd.R_apart' (HO_5.out) (Kd.S_typed HO_3.out) (by decide)) (fun k_ hk=>⟨trivial,hk.2⟩))).1 k_ hk_.symm) ?aF ?aO ?aB ?aS ?aL ?_;(case aP=>exact Kd.M_row (Kd.R_mono (Kd.R_tight rfl (Kd.R_mono (ok':=fun k_=>((fun _=>True)) k_∧some k_≠(u3:Value).ownBlock) (Kd.R_apart' (HO_5.out) (Kd.S_typed HO_3.out) (by decide)) (fun k_ hk=>⟨trivial,hk.2⟩))) (fun _ h_=>h_)));(case aB=> exact zq80);(case aF=>exact(fun _ _=>trivial));(case aO=>exact zq137);(case aS=> exact zq74);(case aL=>have:=LMc17.out;omega);intro f8 g1 ho hb hg hat;rw [← e4.out] at ho;replace HB:=zqm (hb);have e1:=zqm (ho);clear HO_3 HO_5;clear ho hb hg hat))
          go_roundg k2
          (case measure=> exact zq118);case rel=>exact⟨(d6),(wrap64 (a1+1)),zq8,H',⟨zq118⟩,⟨zqfS e1.out⟩,⟨zq5⟩⟩
         ·rw [if_neg c7] at H;exact absurd H (by simp)
       ·rw [if_neg c9] at H;exact absurd H (by simp)
    ·rw [if_neg c6] at H;have e8:decide (a1<(a6))=false:=decide_eq_false c6;clear c6;obtain rfl:=Option.some.inj H
     go_wp2
     go_ret
     exact⟨_,by first|rfl|(simp [errW_none,errW_some] <;> rfl)|(simp only [← a8];first|rfl|(simp [errW_none,errW_some] <;> rfl))|(simp [*,errW_none,errW_some] <;> rfl),zqfS HO_3.out,zq5⟩
   ·rw [if_neg c4] at H;exact absurd H (by simp)
end
section
attribute [local go_sem] max2_int min2_int max_two min_two max_three min_three max_four min_four
def spec_l20Boole.l0 : Nat → Int → Int → List (List Int) → List Int → Option ((List (List Int)) × List Int)
 | 0, _, _, _, _ => none
 | k + 1, x0, x4, x202000, x202001 => if 0 ≤ x0 then (if x4 < (shl .i64 1 x0) then (if x202001.length < 17592186044416 then (spec_l20Boole.l0 k x0 (wrap64 (x4 + 1)) x202000 (x202001 ++ [wrap64 ((wrap64 ((shl .i64 1 x0) - 1)) - x4)])) else (none)) else (some (x202000, x202001))) else (none)
def spec_l20Boole.f (k : Nat) (a0 : Int) : Option ((List (List Int)) × List Int) := (spec_l20Sets.f k a0).bind fun t198 => (spec_l20Boole.l0 k a0 0 t198 ([] : List Int))
theorem spec_l20Boole.mono_l : ∀ k, (∀ y0 y1 y2 y3, LeO (spec_l20Boole.l0 k y0 y1 y2 y3) (spec_l20Boole.l0 (k + 1) y0 y1 y2 y3))
 | 0 => fun _ _ _ _ r h => by simp [spec_l20Boole.l0] at h
 | k + 1 => by
  have ih0 := spec_l20Boole.mono_l k
  ·intro y0 y1 y2 y3
   unfold spec_l20Boole.l0
   repeat' first
   | (with_reducible exact ih0 _ _ _ _)
   | (with_reducible exact spec_l20Sets.mono _ _)
   | (with_reducible exact LeO.refl _)
   | (with_reducible exact LeO.none _)
   | (with_reducible refine LeO.ite ?_ ?_)
   | (with_reducible refine LeO.bind ?_ (fun _ => ?_))
   | exact ih0 _ _ _ _
   | exact spec_l20Sets.mono _ _
   | exact LeO.none _
   | refine LeO.ite ?_ ?_
   | refine LeO.bind ?_ (fun _ => ?_)
theorem spec_l20Boole.mono : ∀ a0 k, LeO (spec_l20Boole.f k a0) (spec_l20Boole.f (k + 1) a0) := by
 intro a0 k
 have ih0 := spec_l20Boole.mono_l k
 unfold spec_l20Boole.f
 repeat' first
   | (with_reducible exact ih0 _ _ _ _)
   | (with_reducible exact spec_l20Sets.mono _ _)
   | (with_reducible exact LeO.refl _)
   | (with_reducible exact LeO.none _)
   | (with_reducible refine LeO.ite ?_ ?_)
   | (with_reducible refine LeO.bind ?_ (fun _ => ?_))
   | exact ih0 _ _ _ _
   | exact spec_l20Sets.mono _ _
   | exact LeO.none _
   | refine LeO.ite ?_ ?_
   | refine LeO.bind ?_ (fun _ => ?_)
def spec_l20Boole.T5 : Bool × List (List Nat × List Nat) := (true, [([], []), ([0], [0]), ([], []), ([2], [2]), ([3], [3]), ([], []), ([4, 5], [4, 5]), ([6], [6]), ([1, 7], [1, 7]), ([0, 1, 2, 3, 4, 5, 6, 7, 8], []), ([9, 8, 8, 0, 1, 2, 3, 4, 5, 6, 7, 8], [8, 9])])
def spec_l20Boole.B5 : List Nat := [0, 1, 0, 4, 12, 0, 60, 124, 255, 511, 1023]
theorem spec_l20Boole.tab5 : rtab .any (opsOf Tryz.f46 5) = spec_l20Boole.T5 := by kernel_rfl
theorem spec_l20Boole.bits5 : waitsOk spec_l20Boole.T5.2 spec_l20Boole.B5 = true := by kernel_rfl
set_option maxHeartbeats 8000000 in
set_option maxRecDepth 100000 in
theorem spec_l20Boole.calls (k : Nat) (a0 : Int) (r1 : List (List Int)) (r2 : List Int) (w : World) (h : spec_l20Boole.f k a0 = some (r1, r2)) :
  Calls Tryz.prog 46 #[.int .i64 a0] w fun e w' => ∃ v0_ v1_ : Value, e = .returned (.agg #[v0_, v1_]) ∧ Kd.S (Kd.slice 3 (Kd.int .i64)) 28 w' w.heap.size (fun k_ => some k_ ≠ (v1_ : Value).ownBlock) v0_ r1 ∧ Kd.R (Kd.int .i64) 3 w' w.heap.size (fun _ => True) v1_ r2 ∧ Below w.heap.size w w' := by
 have hu30:=Tryz.underlying30;have HB:=zqm (Below.refl w.heap.size w);have H:((spec_l20Sets.f k a0).bind fun a6=>(spec_l20Boole.l0 k a0 0 a6 ([]:List Int)))=some (r1,r2):=h;clear h;replace H:=Option.bind_eq_some_iff.mp H;obtain⟨a6,d2,H⟩:=H;replace H:(spec_l20Boole.l0 k a0 0 a6 ([]:List Int))=some (r1,r2):=H;have A2:=zqm d2;clear d2;have H':=zqm H;clear H
 go_enter Tryz.func46,Tryz.ntmps46
 go_wp2_with (first|((with_reducible refine gate_dst (N:=2) rfl ?_);refine box_event ?hg (N:=2) ?hd (cs:= #[.slice none 0 0,.slice none 0 0]) (t:=30) ?hr ?_;(case hd=>rfl);(case hg=>rfl);(case hr=> exact zq16);intro a4 hg w3 hbox hb;have d7:=zqm (below_step zq5 hb);have a2:=zqm (hbox);have f8:=zqm ((by rw [hg];exact(below_size zq5):w.heap.size≤a4));have b1:=zqm ((by rw [hg];exact(below_size zq5):w.heap.size≤a4));clear HB;have HB:=d7;clear d7 hb hbox hg)|((with_reducible refine gate_callee (f:=57) rfl ?_);refine goesL_ (some 6) rfl rfl Tryz.func57 zqk rfl #[.int .i64 a0] rfl zq3 ?_;(with_reducible refine(spec_l20Sets.calls k a0 a6 _ A2.out).mono ?_);rintro e w4 ⟨g7,rfl,d6,hb⟩;refine⟨_,rfl,?_⟩;have b7:=zqm (Kd.S_lower d6 (below_size zq24));replace a2:=zqm (blk_below (g:=a4) (o:= .cells #[.slice none 0 0,.slice none 0 0] 30 (0,0)) (zqe a2.out) hb);replace HB:=zqm (below_step zq24 hb);clear hb d6;obtain⟨b2,b3,e9⟩:=Kd.S_slice b7.out;subst e9)|((with_reducible refine gate_dst (N:=3) rfl ?_);refine box_event ?hg (N:=3) ?hd (cs:= #[.slice none 0 0,.slice none 0 0]) (t:=30) ?hr ?_;(case hd=>rfl);(case hg=>rfl);(case hr=> exact zq16);intro a5 hg w6 hbox hb;replace b7:=zqm (Kd.S_below (zqfS b7.out) hb);have d8:=zqm (blk_below (g:=a4) (o:= .cells #[.slice none 0 0,.slice none 0 0] 30 (0,0)) (zqe a2.out) hb);have d9:=zqm (below_step zq24 hb);have a1:=zqm (hbox);have f9:=zqm ((by rw [hg];exact(below_size zq24):w.heap.size≤a5));have b5:=zqm ((by rw [hg];exact(below_size zq24):w.heap.size≤a5));have a8:=zqm ((by rw [hg];exact Nat.ne_of_lt (blk_lt (g:=a4) (o:= .cells #[.slice none 0 0,.slice none 0 0] 30 (0,0)) (zqe a2.out)):a4≠a5));have b4:=zqm ((by rw [hg];exact Nat.ne_of_gt (blk_lt (g:=a4) (o:= .cells #[.slice none 0 0,.slice none 0 0] 30 (0,0)) (zqe a2.out)):a5≠a4));clear a2 HB;have a2:=d8;have HB:=d9;clear d8 d9 hb hbox hg;have g5:=b4.out;have g6:=a8.out;have f3:w6.cell? ⟨a5,0,none⟩=some (.slice none 0 0):=(blk_cell a1.out 0).trans rfl;have f4:w6.cell? ⟨a5,1,none⟩=some (.slice none 0 0):=(blk_cell a1.out 1).trans rfl;have f5:=blk_frozen a1.out 0;have f6:=blk_frozen a1.out 1))
 go_loopg [4] k (fun kq v4 w'=> ∃(b0:Int) (a3:List Int) (a7:Value),v4= .int .i64 b0∧Aside0 (spec_l20Boole.l0 kq a0 b0 a6 a3=some (r1,r2))∧Aside0 (kq≤k)∧Aside0 (Kd.S (Kd.slice 3 (Kd.int .i64)) 28 w' w.heap.size (fun k_=>some k_≠(a7:Value).ownBlock) (.slice b2 a6.length b3) a6)∧Aside0 (Kd.R (Kd.int .i64) 3 w' w.heap.size (fun _=>True) a7 a3)∧Aside0 (w'.heap[a4]? =some (.cells #[(.slice none 0 0),(.slice none 0 0)] 30 (0,0)))∧Aside0 (w'.heap[a5]? =some (.cells #[(.slice b2 a6.length b3),a7] 30 (0,0)))∧Aside0 (Below w.heap.size w w'))
 case atStart=>exact⟨(0),(([]:List Int)),(.slice none 0 0),zq8,H',⟨Nat.le_refl _⟩,⟨by refine zqfS ?_;exact Kd.S_mono (Kd.S_far (p:=⟨a5,1,none⟩) (Kd.S_far (p:=⟨a5,0,none⟩) (Kd.S_types b7.out a1.out (by decide)) (fun _ hk=>hk.2) (.slice b2 a6.length b3)) (fun _ hk=>hk.2) (.slice none 0 0)) (fun _ hk=>(by simp [Value.ownBlock]))⟩,⟨zq59⟩,⟨by refine zqe ?_;refine blk_far ?_ a8.out _;refine zqe ?_;refine blk_far ?_ a8.out _;refine zqe ?_;exact a2.out⟩,⟨by refine zqe ?_;refine blk_put (cs:= #[.slice b2 a6.length b3,.slice none 0 0]) ?_ 1 _ rfl;refine zqe ?_;refine blk_put (cs:= #[.slice none 0 0,.slice none 0 0]) ?_ 0 _ rfl;refine zqe ?_;exact a1.out⟩,⟨zq36⟩⟩
 case round=>
  clear H';obtain⟨b0,a3,a7,rfl,HA,d3,HO_202000,HO_202001,a2,a1,HB⟩:=hrel
  cases gk with
  |zero=>exact absurd HA.out (by simp [spec_l20Boole.l0])
  |succ k1=>
   have H:=HA.out;clear HA;simp only [spec_l20Boole.l0] at H
   by_cases c9:0≤a0
   ·rw [if_pos c9] at H;have g3:=eq_true c9;have g4:decide (0≤a0)=true:=decide_eq_true c9;clear c9;obtain⟨a9,b6⟩: ∃j_:Int,(shl .i64 1 a0)=j_:=⟨_,rfl⟩;(replace H:(if b0<(a9) then(if a3.length<17592186044416 then(spec_l20Boole.l0 k1 a0 (wrap64 (b0+1)) a6 (a3 ++ [wrap64 ((wrap64 ((a9) - 1)) - b0)])) else(none)) else(some (a6,a3)))=some (r1,r2):=by first|(rw [b6] at H;exact H)|(simp only [b6] at H ⊢;exact H));have c1:(IntKind.i64.wrap (1*2 ^ min a0.toNat 64))=a9:=b6;have hji10z:a0≤64→(IntKind.i64.wrap (1*2 ^ a0.toNat))=a9:=shl_small b6;(have hji10u:(IntKind.i64.wrap (2 ^ min a0.toNat 64))=a9:=by have h_:=c1;rw [Int.one_mul] at h_;exact h_);(have hji10v:a0≤64→(IntKind.i64.wrap (2 ^ a0.toNat))=a9:=fun hle_=>by have h_:=hji10z hle_;rw [Int.one_mul] at h_;exact h_);have hji10y:(wrap64 (1*2 ^ min a0.toNat 64))=a9:=(i64_w _).symm.trans c1;have hji10x:a0≤64→(wrap64 (1*2 ^ a0.toNat))=a9:=fun h_=>(i64_w _).symm.trans (hji10z h_)
    by_cases b9:b0<(a9)
    ·rw [if_pos b9] at H;have d1:decide (b0<(a9))=true:=decide_eq_true b9;clear b9;have g0:=eq_true (zqo:0≤a0)
     by_cases c7:a3.length<17592186044416
     ·rw [if_pos c7] at H;have LMc14:=zqm c7;clear c7;obtain⟨b8,c0⟩: ∃y_:List Int,y_=(a3 ++ [wrap64 ((wrap64 ((a9) - 1)) - b0)]):=⟨_,rfl⟩;replace H:(spec_l20Boole.l0 k1 a0 (wrap64 (b0+1)) a6 b8)=some (r1,r2):=zqy c0 H;have d0:=zqm c0;clear c0;have H':=zqm H;clear H;(try go_wp2);replace HO_202000:=zqm (Kd.S_drew HO_202000.out);replace HO_202001:=zqm (Kd.R_drew HO_202001.out);replace a2:=zqm (blk_drew a2.out);replace a1:=zqm (blk_drew a1.out);replace HB:=zqm (below_drew1 HB.out);refine start_ (n:=11) (S:=fun w'=>w'.cell? ⟨a5,0,none⟩=some (.slice b2 a6.length b3)∧w'.cell? ⟨a5,1,none⟩=some (a7)) (ds:= [10]) (zqb 11 0) zqk rfl rfl ⟨(blk_cell a1.out 0).trans rfl,(blk_cell a1.out 1).trans rfl⟩ (fun hHeld=>?_);refine with_tabW spec_l20Boole.tab5 spec_l20Boole.bits5 (fun HT_ HW_=>?_);generalize wr.drew=g9 at HO_202000 HO_202001 a2 a1 HB hHeld ⊢;refine zqp 0 14 (zqb 11 1) HT_ ?_;refine zqp 2 16 (zqb 11 5) HT_ ?_;refine zqp 3 17 (zqb 11 13) HT_ ?_;refine zqp 4 18 (zqb 11 29) HT_ ?_;refine zqp 5 19 (zqb 11 61) HT_ ?_;refine zqp 6 20 (zqb 11 125) HT_ ?_;refine zqw 1 15 (zqb 11 127) HT_ HW_ hHeld ?_;refine one_ (i:=7) (N:=some 21) (zqb 11 255) rfl rfl (one_of HT_.out zqk) (by decide) (fun K hK=>?_);refine value_ (w1:=?_) (v:=?_) (by rfl) rfl ?_ ?_;rotate_left 2
      ·go_simp
       constructor
       ·rfl
       ·rfl
      refine hK.out _ _ ⟨(blk_cell (blk_alloc a1.out _) 0).trans rfl,(blk_cell (blk_alloc a1.out _) 1).trans rfl⟩ (fun hHeld=>?_);clear hK K;refine norm_ (a':=?_) ?_ ?_;rotate_left
      ·show Act.put _ (some 21) _=_;exact zqs
      refine one_ (i:=8) (N:=some 22) (zqb 11 511) rfl rfl (one_of HT_.out zqk) (by decide) (fun K hK=>?_);refine Kd.R_append_step (Kd.int .i64) (w0:=w) w.heap.size (by rfl) (.tmp 15) (.tmp 21) 28 3 (.int .i64 0) 8 rfl Tryz.underlying28 info3 rfl (by decide) (by omega) a7 a3 (wrap64 ((wrap64 ((a9) - 1)) - b0)) [.int .i64 (wrap64 ((wrap64 ((a9) - 1)) - b0))] (fun _=>True) (fun _=>False) rfl rfl ?aP (fun _ hk=>hk.elim) ?aF ?aO ?aB ?aS ?aL ?_;(case aP=>exact rfl);(case aB=>exact zq36);(case aF=>exact(fun _ _=>trivial));(case aO=>exact(zqfR HO_202001.out));(case aS=>exact(below_size zq36));(case aL=>have:=LMc14.out;omega);intro g8 f7 ho hb hg hat;rw [← d0.out] at ho;replace HO_202000:=zqm (Kd.S_after (ok:=(fun _=>True)) (by refine zqfS ?_;exact Kd.S_mono HO_202000.out (fun _ hk=>⟨trivial,hk⟩)) hg hat);replace a2:=zqm (blk_grown (g:=a4) (o:= .cells #[.slice none 0 0,.slice none 0 0] 30 (0,0)) (zqe a2.out) hg (Kd.R_ne HO_202001.out a2.out (by decide)));replace a1:=zqm (blk_grown (g:=a5) (o:= .cells #[.slice b2 a6.length b3,a7] 30 (0,0)) (zqe a1.out) hg (Kd.R_ne HO_202001.out a1.out (by decide)));replace HB:=zqm (hb);have c6:=zqm (ho);clear HO_202001;clear ho hb hg hat;obtain⟨c2,c4,c8⟩:=Kd.R_slice c6.out;(first|subst c8|(injection c8 with d4 f0 d5;have f1:=d4.symm;have f2:=d5.symm;clear d4 f0 d5;subst f1;subst f2));refine hK.out _ _ ⟨(blk_cell a1.out 0).trans rfl,(blk_cell a1.out 1).trans rfl⟩ (fun hHeld=>?_);clear hK K;refine norm_ (a':=?_) ?_ ?_;rotate_left
      ·show Act.put _ (some 22) _=_;exact zqs
      refine zqp 9 23 (zqb 11 1023) HT_ ?_;refine last_ (i:=10) (N:=none) (zqb 11 2047) rfl rfl (one_of HT_.out zqk) (by decide) (fun K hK=>?_);have hs18:f7.cell? ⟨a5,1,none⟩=some (a7):=(blk_cell a1.out 1).trans rfl;have hfs18:=blk_frozen a1.out 1;have hns18_0:=a8.out;have hms18_0:=b4.out;refine skip_ (w1:=?_) (by rfl) rfl ?_ ?_;rotate_left
      ·go_simp;rfl
      refine hK.out _ _ ?_;clear hK K;refine done_ (done_of HT_.out zqk) ?_;try go_wp2
      go_roundg k1
      (case measure=>have:=d3.out;omega);case rel=>exact⟨(wrap64 (b0+1)),(b8),(.slice c2 b8.length c4),zq8,H',⟨by have:=d3.out;omega⟩,⟨by refine zqfS ?_;exact Kd.S_mono (Kd.S_far (p:=⟨a5,1,none⟩) (Kd.S_types HO_202000.out a1.out (by decide)) (fun _ hk=>hk.2) (.slice c2 b8.length c4)) (fun _ hk=>hk.1.2)⟩,⟨by refine zqfR ?_;exact Kd.R_mono (Kd.R_far (p:=⟨a5,1,none⟩) (Kd.R_types c6.out a1.out (by decide)) (fun _ hk=>hk.2) (.slice c2 b8.length c4)) (fun _ hk=>trivial)⟩,⟨by refine zqe ?_;refine blk_far ?_ a8.out _;refine zqe ?_;exact a2.out⟩,⟨by refine zqe ?_;refine blk_put (cs:= #[.slice b2 a6.length b3,a7]) ?_ 1 _ rfl;refine zqe ?_;exact a1.out⟩,⟨zq36⟩⟩
     ·rw [if_neg c7] at H;exact absurd H (by simp)
    ·rw [if_neg b9] at H;have d1:decide (b0<(a9))=false:=decide_eq_false b9;clear b9;simp only [Option.some.injEq,Prod.mk.injEq] at H;obtain⟨rfl,rfl⟩:=H;have g1:=b4.out;have g2:=a8.out;have e1:wr.cell? ⟨a5,0,none⟩=some (.slice b2 a6.length b3):=(blk_cell a1.out 0).trans rfl;have e2:wr.cell? ⟨a5,1,none⟩=some (a7):=(blk_cell a1.out 1).trans rfl;have e5:=blk_frozen a1.out 0;have e6:=blk_frozen a1.out 1;have e3:wr.cell? ⟨a4,0,none⟩=some (.slice none 0 0):=(blk_cell a2.out 0).trans rfl;have e4:wr.cell? ⟨a4,1,none⟩=some (.slice none 0 0):=(blk_cell a2.out 1).trans rfl;have e7:=blk_frozen a2.out 0;have e8:=blk_frozen a2.out 1;obtain⟨c3,c5,e0⟩:=Kd.R_slice HO_202001.out;subst e0
     go_wp2
     refine bodyPost_ret (results_cell_row rfl _ _ a4 30 #[.slice b2 a6.length b3,.slice c3 a3.length c5] (0,0) _ rfl (by refine zqe ?_;refine blk_put (cs:= #[.slice b2 a6.length b3,.slice none 0 0]) ?_ 1 _ rfl;refine zqe ?_;refine blk_put (cs:= #[.slice none 0 0,.slice none 0 0]) ?_ 0 _ rfl;refine zqe ?_;exact a2.out) Tryz.underlying30 rfl zqk) rfl ?_;exact⟨_,_,by first|rfl|(simp [errW_none,errW_some] <;> rfl)|(simp only [← b6];first|rfl|(simp [errW_none,errW_some] <;> rfl))|(simp [*,errW_none,errW_some] <;> rfl),by refine zqfS ?_;exact Kd.S_mono (Kd.S_far (p:=⟨a4,1,none⟩) (Kd.S_far (p:=⟨a4,0,none⟩) (Kd.S_types HO_202000.out a2.out (by decide)) (fun _ hk=>hk.2) (.slice b2 a6.length b3)) (fun _ hk=>hk.2) (.slice c3 a3.length c5)) (fun _ hk=>hk.1),by refine zqfR ?_;exact Kd.R_mono (Kd.R_far (p:=⟨a4,1,none⟩) (Kd.R_far (p:=⟨a4,0,none⟩) (Kd.R_types HO_202001.out a2.out (by decide)) (fun _ hk=>hk.2) (.slice b2 a6.length b3)) (fun _ hk=>hk.2) (.slice c3 a3.length c5)) (fun _ hk=>trivial),zq36⟩
   ·rw [if_neg c9] at H;exact absurd H (by simp)
end
end Go.Proofs.YtbomiegcbimgoaaGreat.Print
end
