/- Part 3 of what is common to several claims of this seat: StatesOfL. -/
import Derived.Test.YtcbjpdaogicibaaLG2
import Derived.Below
import Derived.Deep.Draws
import Derived.Deep.AppendLies
import Derived.Maps.AppendAt
import Derived.OwnWalk
import Derived.Laws.BytesArg
import Derived.Laws.MakeOwn
import Derived.Laws.OwnMore
import Derived.Deep.OwnRows
import Derived.Tactics
import Derived.Lib.ConvBytes
import Derived.Laws.Slices
import Derived.WalkKit
import Derived.KernelRfl
import Derived.RowKit3
import Derived.Deep.LoopGhost
import Derived.Deep.QuietTactic
import Derived.BigQuiet
import Derived.WideLaws
import Derived.Deep.DeepCutAuto
import Derived.Deep.CutBlock
import Derived.Deep.RegionHeld3
import Derived.Laws.Rows
import Derived.Lib.AppendStr
import Derived.ArgAppend
import Derived.Laws.IdiomCopy
import Derived.RowKit
import Derived.OrdersHeld
import Derived.Laws.BitsLemmas
import Derived.Test.YtcbjpdaogicibaaProg
set_option linter.all false
section
namespace Go.Proofs.Ytcbjpdaogicibaa
section
variable {p : Prop}
open Go.RowKit Go.Proofs.YtcbjpdaogicibaaW.PrintWords Go.Proofs.YtcbjpdaogicibaaW.PrintLast
theorem zqm {p : Prop} (h : p) : Aside0 p := Aside0.mk h
theorem zqp {P : Program} {ops : Array Oper} {Q : Exit → Act → World → Prop} {md : Region.Mode} {S : World → Prop} {ds : List Nat} {T : Bool × List (List Nat × List Nat)} {oi : Oper} {v : Value} {fuel : Nat} {l : Array Bool} {a a' : Act} {w : World} (i n : Nat) (l' : Array Bool) (HT : Aside0 (rtab md ops = T)) (h : wpAnyLast P md ops Q S ds fuel l' a' w) (hi : ops[i]? = some oi := by exact rfl) (hN : oi.dst = some n := by exact rfl) (hc : anyT T l.toList l'.toList i = true := by kernel_rfl) (hQ : ∀ c a w, Q (.panic c) (a.put oi.dst v) w → Q (.panic c) a w := by exact fun _ _ _ h => h) (hw : Region.wanted oi (yielded ops a.tmps) = true := by rfl) (hr : ∀ w', (execOp a.eval oi).run P w' = .ok (.value v) w' := by intro w'; go_simp; with_reducible rfl) (ha : a.put (some n) v = a' := by simp only [Act.put, List.setIfInBounds_toArray, List.set_cons_zero, List.set_cons_succ, i64_w, i32_w]; rfl) : wpAnyLast P md ops Q S ds (fuel + 1) l a w :=
  pure_ l' hi hN (any_of HT.out hc) hQ (Or.inl ⟨hw, hr⟩) ha h
theorem zqu {P : Program} {ops : Array Oper} {Q : Exit → Act → World → Prop} {md : Region.Mode} {S : World → Prop} {ds : List Nat} {T : Bool × List (List Nat × List Nat)} {oi : Oper} {fuel : Nat} {l : Array Bool} {a a' : Act} {w : World} (i n : Nat) (l' : Array Bool) (HT : Aside0 (rtab md ops = T)) (h : wpAnyLast P md ops Q S ds fuel l' a' w) (hi : ops[i]? = some oi := by exact rfl) (hN : oi.dst = some n := by exact rfl) (hc : anyT T l.toList l'.toList i = true := by kernel_rfl) (hQ : ∀ c a w, Q (.panic c) (a.put oi.dst undef) w → Q (.panic c) a w := by exact fun _ _ _ h => h) (hw : Region.wanted oi (yielded ops a.tmps) = false := by rfl) (ha : a.put (some n) undef = a' := by simp only [Act.put, List.setIfInBounds_toArray, List.set_cons_zero, List.set_cons_succ, i64_w, i32_w]; rfl) : wpAnyLast P md ops Q S ds (fuel + 1) l a w :=
  pure_ l' hi hN (any_of HT.out hc) hQ (Or.inr ⟨hw, rfl⟩) ha h
theorem zqw {P : Program} {ops : Array Oper} {Q : Exit → Act → World → Prop} {md : Region.Mode} {S : World → Prop} {ds : List Nat} {T : Bool × List (List Nat × List Nat)} {oi : Oper} {v : Value} {fuel : Nat} {l : Array Bool} {a a' : Act} {w : World} (i n : Nat) (l' : Array Bool) (HT : Aside0 (rtab md ops = T)) {B : List Nat} (HW : Aside0 (waitsOk T.2 B = true)) (hS : S w) (h : wpAnyLast P md ops Q S ds fuel l' a' w) (hi : ops[i]? = some oi := by exact rfl) (hN : oi.dst = some n := by exact rfl) (hc : takeW T B ds l.toList l'.toList i = true := by kernel_rfl) (hQ : ∀ c a w, Q (.panic c) (a.put oi.dst v) w → Q (.panic c) a w := by exact fun _ _ _ h => h) (hw : Region.wanted oi (yielded ops a.tmps) = true := by rfl) (hr : ∀ w', S w' → (execOp a.eval oi).run P w' = .ok (.value v) w' := by intro w' hs_; (repeat obtain ⟨_, hs_⟩ := hs_); go_simp; with_reducible rfl) (ha : a.put (some n) v = a' := by simp only [Act.put, List.setIfInBounds_toArray, List.set_cons_zero, List.set_cons_succ, i64_w, i32_w]; rfl) : wpAnyLast P md ops Q S ds (fuel + 1) l a w :=
  take_ l' hi hN (take_ofW HT.out HW.out hc) hQ (Or.inl ⟨hw, hr⟩) hS ha h
theorem zqe {p q : Prop} (a : p) (h : p → q := by intro h_; (with_reducible repeat (first | refine blk_drewN ?_ _ | refine blk_drew ?_ | refine blk_alloc ?_ _)); exact h_) : q := h a
theorem zqfS {p q : Prop} (a : p) (h : p → q := by intro h_; (with_reducible repeat (first | apply Kd.S_alloc | apply Kd.S_drewN | apply Kd.S_drew)); exact h_) : q := h a
theorem zqfR {p q : Prop} (a : p) (h : p → q := by intro h_; (with_reducible repeat (first | apply Kd.R_alloc | apply Kd.R_drewN | apply Kd.R_drew)); exact h_) : q := h a
theorem zqfQ {p q : Prop} (a : p) (h : p → q := by intro h_; (with_reducible repeat (first | apply Kd.Q_alloc | apply Kd.Q_drewN | apply Kd.Q_drew)); exact h_) : q := h a
theorem zqy {α : Type} {y z : α} {P Q : Prop} (h : y = z) (H : P) (k : y = z → P → Q := by intro h H; first | (rw [h]; with_reducible exact H) | (have hv := (Option.bind_some _ _).symm.trans H; rw [h]; with_reducible exact hv) | (have hv := (Option.bind_some _ _).symm.trans H; with_reducible exact hv) | with_reducible exact H | (rw [h]; exact H) | exact H) : Q := k h H
def zqb (n k : Nat) : Array Bool := ((List.range n).map fun i => Nat.testBit k i).toArray
theorem zqk (h:p:=by kernel_rfl):p:=h
theorem zqo [Decidable p] (h:decide p=true:=by first|(with_reducible assumption)|assumption):p:=of_decide_eq_true h
theorem zqs {p : Prop} (h : p := by simp only [Act.put, List.setIfInBounds_toArray, List.set_cons_zero, List.set_cons_succ, i64_w, i32_w]; rfl) : p := h
theorem zqt {p : Prop} (h : p := by intro w'; go_simp; with_reducible rfl) : p := h
theorem zq0 (h:p:=by repeat(first|(with_reducible first|exact HK.out|apply KeepBut.set_|apply keep_drewN|apply keep_drew|apply keep_alloc|refine keep_far ?_ a9.out _|refine keep_far ?_ b0.out _)|exact HK.out)):p:=h
theorem zq1 (h:p:=by repeat(first|(with_reducible first|exact a2.out|apply IsS110.alloc|apply IsS110.drewN|apply IsS110.drew|apply IsS110.set_1|refine IsS110.far ?_ a7.out _|refine IsS110.far ?_ a6.out _)|exact a2.out)):p:=h
theorem zq2 (h:p:=by repeat(first|(with_reducible first|exact HB.out|apply below_alloc|apply pw_below_drewN|apply below_drew1)|exact HB.out)):p:=h
theorem zq3 (h:p:=by repeat(first|(with_reducible first|exact HB.out|apply below_alloc|apply pw_below_drewN|apply below_drew1|refine below_set ?_ (IsS110.ge a2.out)|refine below_set ?_ b4.out|refine below_set ?_ b5.out)|exact HB.out)):p:=h
theorem zq4 (h:p:=by repeat(first|(with_reducible first|exact HB.out|apply below_alloc|apply pw_below_drewN|apply below_drew1|refine below_set ?_ b1.out|refine below_set ?_ b2.out|refine below_set ?_ b3.out|refine below_set ?_ b4.out)|exact HB.out)):p:=h
theorem zq5 (h:p:=by (try simp only [List.map_toArray,List.map_cons,List.map_nil]);first|done|rfl|(simp only [List.length_drop,List.length_take];rfl)):p:=h
theorem zq6 (h:p:=by first|rfl|(simp;done)|(simp [*];done)):p:=h
theorem zq7 (h:p:=by repeat(first|(with_reducible first|exact HB.out|apply below_alloc|apply pw_below_drewN|apply below_drew1|refine below_set ?_ a6.out|refine below_set ?_ a7.out)|exact HB.out)):p:=h
theorem zq8 (h:p:=by repeat(first|exact Drawn0.refl _|apply Drawn0.step)):p:=h
theorem zq9 (h:p:=by first|(go_simp;done)|(go_simp;rfl)):p:=h
theorem zq10 (h:p:=by repeat(first|(with_reducible first|exact HB.out|apply below_alloc|apply pw_below_drewN|apply below_drew1|refine below_set ?_ GE.out)|exact HB.out)):p:=h
theorem zq11 (h:p:=by exact(below_size (by repeat(first|(with_reducible first|exact HB.out|apply below_alloc|apply pw_below_drewN|apply below_drew1|refine below_set ?_ b1.out|refine below_set ?_ b2.out|refine below_set ?_ b3.out|refine below_set ?_ b4.out)|exact HB.out)))):p:=h
theorem zq12 (h:p:=by exact(by repeat(first|(with_reducible first|exact HB.out|apply below_alloc|apply pw_below_drewN|apply below_drew1|refine below_set ?_ b1.out|refine below_set ?_ b2.out|refine below_set ?_ b3.out|refine below_set ?_ b4.out)|exact HB.out))):p:=h
theorem zq13 (h:p:=by first|rfl|(simp [errW_none,errW_some] <;> rfl)|(simp [*,errW_none,errW_some] <;> rfl)):p:=h
theorem zq14 (h:p:=by repeat(first|(with_reducible first|exact HB.out|apply below_alloc|apply pw_below_drewN|apply below_drew1|refine below_set ?_ a2.out)|exact HB.out)):p:=h
theorem zq15 (h:p:=by repeat(first|(with_reducible first|exact HB.out|apply below_alloc|apply pw_below_drewN|apply below_drew1|refine below_set ?_ b1.out|refine below_set ?_ b4.out|refine below_set ?_ b9.out)|exact HB.out)):p:=h
theorem zq16 (h:p:=by repeat(first|(with_reducible first|exact HB.out|apply below_alloc|apply pw_below_drewN|apply below_drew1|refine below_set ?_ b0.out)|exact HB.out)):p:=h
theorem zq17 (h:p:=by repeat (first | (with_reducible first | exact HB.out | apply below_alloc | apply pw_below_drewN | apply below_drew1 | refine below_set ?_ GE1123.out | refine below_set ?_ GE1124.out) | exact HB.out)):p:=h
theorem zq18 (h:p:=by repeat(first|exact(Kd.C_below a6.out HB.out)|(with_reducible refine Kd.C_alloc ?_ _)|(with_reducible refine Kd.C_drewN ?_ _)|(with_reducible refine Kd.C_drew ?_))):p:=h
theorem zq19 (h:p:=by repeat(first|(with_reducible first|exact HB.out|apply below_alloc|apply pw_below_drewN|apply below_drew1|refine below_set ?_ a5.out)|exact HB.out)):p:=h
theorem zq20 (h:p:=by repeat(first|(with_reducible first|exact HB.out|apply below_alloc|apply pw_below_drewN|apply below_drew1|refine below_set ?_ b0.out|refine below_set ?_ d2.out)|exact HB.out)):p:=h
theorem zq21 (h:p:=by repeat(first|(with_reducible first|exact HB.out|apply below_alloc|apply pw_below_drewN|apply below_drew1|refine below_set ?_ b0.out|refine below_set ?_ d2.out|refine below_set ?_ f3.out)|exact HB.out)):p:=h
theorem zq22 (h:p:=by exact(below_size (by repeat(first|(with_reducible first|exact HB.out|apply below_alloc|apply pw_below_drewN|apply below_drew1|refine below_set ?_ a6.out|refine below_set ?_ a7.out)|exact HB.out)))):p:=h
theorem zq23 (h:p:=by exact(by repeat(first|(with_reducible first|exact HB.out|apply below_alloc|apply pw_below_drewN|apply below_drew1|refine below_set ?_ a6.out|refine below_set ?_ a7.out)|exact HB.out))):p:=h
theorem zq24 (h:p:=by repeat(first|(with_reducible first|exact HB.out|apply below_alloc|apply pw_below_drewN|apply below_drew1|refine below_set ?_ b1.out)|exact HB.out)):p:=h
theorem zq25 (h:p:=by refine zqe ?_;refine blk_put (cs:= #[.slice none 0 0,.slice none 0 0]) ?_ 1 _ rfl;refine zqe ?_;refine blk_put (cs:= #[.slice none 0 0,.slice none 0 0]) ?_ 0 _ rfl;refine zqe ?_;exact BK.out):p:=h
theorem zq26 (h:p:=by (try simp only [List.map_toArray,List.map_cons,List.map_nil]);first|done|rfl):p:=h
theorem zq27 (h:p:=by repeat(first|(with_reducible first|exact HK.out|apply KeepBut.set_|apply keep_drewN|apply keep_drew|apply keep_alloc)|exact HK.out)):p:=h
theorem zq28 (h:p:=by repeat(first|(with_reducible first|exact HB.out|apply below_alloc|apply pw_below_drewN|apply below_drew1|refine below_set ?_ a3.out)|exact HB.out)):p:=h
theorem zq29 (h:p:=by repeat(first|(with_reducible first|exact HB.out|apply below_alloc|apply pw_below_drewN|apply below_drew1|refine below_set ?_ b8.out)|exact HB.out)):p:=h
theorem zq30 (h:p:=by repeat(first|(with_reducible first|exact HB.out|apply below_alloc|apply pw_below_drewN|apply below_drew1|refine below_set ?_ b1.out|refine below_set ?_ b4.out)|exact HB.out)):p:=h
theorem zq31 (h:p:=by refine zqfR ?_;exact(Kd.R_mono (Kd.R_far (p:=⟨a0,1,none⟩) (Kd.R_far (p:=⟨a0,0,none⟩) (Kd.R_types a9.out a2.out (by decide)) (fun _ hk=>hk.2) (.slice d3 a7.length d1)) (fun _ hk=>hk.2) (.slice d0 a4.length c8)) (fun _ h_=>h_.1))):p:=h
theorem zq32 (h:p:=by refine zqfR ?_;exact(Kd.R_mono (Kd.R_far (p:=⟨a0,1,none⟩) (Kd.R_far (p:=⟨a0,0,none⟩) (Kd.R_types a9.out a2.out (by decide)) (fun _ hk=>hk.2) (.slice d8 a7.length d7)) (fun _ hk=>hk.2) (.slice d6 a4.length d4)) (fun _ h_=>h_.1))):p:=h
theorem zq33 (h:p:=by repeat(first|exact(Kd.C_below a8.out HB.out)|(with_reducible refine Kd.C_alloc ?_ _)|(with_reducible refine Kd.C_drewN ?_ _)|(with_reducible refine Kd.C_drew ?_))):p:=h
theorem zq34 (h:p:=by refine(Kd.S_reads' (e:=24) (base:=w.heap.size) (ok:=fun k_=>(((some k_≠(.slice d0 a4.length c8:Value).ownBlock∧some k_≠(.slice f1 b5.length e6:Value).ownBlock)∧some k_≠(.slice b9 b3.length b6:Value).ownBlock)∧some k_≠(.slice b4 a6.length b1:Value).ownBlock)) (n:=a7.length) (c:=d1) ?_).2.2;exact(by refine zqfS ?_;exact(Kd.S_mono (Kd.S_far (p:=⟨a0,1,none⟩) (Kd.S_far (p:=⟨a0,0,none⟩) (Kd.S_types b2.out a2.out (by decide)) (fun _ hk=>hk.2) (.slice d3 a7.length d1)) (fun _ hk=>hk.2) (.slice d0 a4.length c8)) (fun _ h_=>h_.1)))):p:=h
theorem zq35 (h:p:=by refine(Kd.S_reads' (e:=24) (base:=w.heap.size) (ok:=fun k_=>(((some k_≠(.slice d6 a4.length d4:Value).ownBlock∧some k_≠(.slice f1 b5.length e6:Value).ownBlock)∧some k_≠(.slice b9 b3.length b6:Value).ownBlock)∧some k_≠(.slice b4 a6.length b1:Value).ownBlock)) (n:=a7.length) (c:=d7) ?_).2.2;exact(by refine zqfS ?_;exact(Kd.S_mono (Kd.S_far (p:=⟨a0,1,none⟩) (Kd.S_far (p:=⟨a0,0,none⟩) (Kd.S_types b2.out a2.out (by decide)) (fun _ hk=>hk.2) (.slice d8 a7.length d7)) (fun _ hk=>hk.2) (.slice d6 a4.length d4)) (fun _ h_=>h_.1)))):p:=h
theorem zq36 (h:p:=by repeat(first|(with_reducible first|exact HB.out|apply below_alloc|apply pw_below_drewN|apply below_drew1|refine below_set ?_ GR.out)|exact HB.out)):p:=h
theorem zq37 (h:p:=by repeat(first|(with_reducible first|exact HB.out|apply below_alloc|apply pw_below_drewN|apply below_drew1|refine below_set ?_ a4.out)|exact HB.out)):p:=h
theorem zq38 (h:p:=by repeat(first|exact a5.out|(with_reducible refine Kd.C_alloc ?_ _)|(with_reducible refine Kd.C_drewN ?_ _)|(with_reducible refine Kd.C_drew ?_))):p:=h
theorem zq39 (h:p:=by exact Kd.M_row (Kd.R_mono (Kd.R_tight rfl (Kd.R_mono (ok':=fun k_=>((fun k_=>some k_≠(a1:Value).ownBlock)) k_∧some k_≠(b0:Value).ownBlock) (Kd.R_apart' (HO_9.out) (Kd.S_typed HO_131000.out) (by decide)) (fun k_ hk=>⟨hk.1,hk.2⟩))) (fun _ h_=>h_))):p:=h
theorem zq40 (h:p:=by refine zqe ?_;refine blk_far ?_ b3.out _;refine zqe ?_;refine blk_far ?_ b3.out _;refine zqe ?_;exact a4.out):p:=h
theorem zq41 (h:p:=by have:=b2.out;have:=b3.out;have:=b6.out;have:=b5.out;omega):p:=h
theorem zq42 (h:p:=by refine zqfS ?_;exact(Kd.S_mono (Kd.S_far (p:=⟨a0,1,none⟩) (Kd.S_far (p:=⟨a0,0,none⟩) (Kd.S_types b2.out a2.out (by decide)) (fun _ hk=>hk.2) (.slice d3 a7.length d1)) (fun _ hk=>hk.2) (.slice d0 a4.length c8)) (fun _ h_=>h_.1))):p:=h
theorem zq43 (h:p:=by refine zqfS ?_;exact(Kd.S_mono (Kd.S_far (p:=⟨a0,1,none⟩) (Kd.S_far (p:=⟨a0,0,none⟩) (Kd.S_types b2.out a2.out (by decide)) (fun _ hk=>hk.2) (.slice d8 a7.length d7)) (fun _ hk=>hk.2) (.slice d6 a4.length d4)) (fun _ h_=>h_.1))):p:=h
theorem zq44 (h:p:=by refine(Kd.R_reads' (e:=3) (base:=w.heap.size) (ok:=fun k_=>((True∧some k_≠(.slice f1 b5.length e6:Value).ownBlock)∧some k_≠(.slice b4 a6.length b1:Value).ownBlock)) (n:=a4.length) (c:=c8) ?_).2.2;exact(by refine zqfR ?_;exact(Kd.R_mono (Kd.R_far (p:=⟨a0,1,none⟩) (Kd.R_far (p:=⟨a0,0,none⟩) (Kd.R_types a9.out a2.out (by decide)) (fun _ hk=>hk.2) (.slice d3 a7.length d1)) (fun _ hk=>hk.2) (.slice d0 a4.length c8)) (fun _ h_=>h_.1)))):p:=h
theorem zq45 (h:p:=by refine(Kd.R_reads' (e:=3) (base:=w.heap.size) (ok:=fun k_=>((True∧some k_≠(.slice f1 b5.length e6:Value).ownBlock)∧some k_≠(.slice b4 a6.length b1:Value).ownBlock)) (n:=a4.length) (c:=d4) ?_).2.2;exact(by refine zqfR ?_;exact(Kd.R_mono (Kd.R_far (p:=⟨a0,1,none⟩) (Kd.R_far (p:=⟨a0,0,none⟩) (Kd.R_types a9.out a2.out (by decide)) (fun _ hk=>hk.2) (.slice d8 a7.length d7)) (fun _ hk=>hk.2) (.slice d6 a4.length d4)) (fun _ h_=>h_.1)))):p:=h
theorem zq46 (h:p:=by repeat(first|(with_reducible first|exact HB.out|apply below_alloc|apply pw_below_drewN|apply below_drew1|refine below_set ?_ b1.out|refine below_set ?_ b5.out)|exact HB.out)):p:=h
theorem zq47 (h:p:=by repeat(first|exact(Kd.C_below b0.out HB.out)|(with_reducible refine Kd.C_alloc ?_ _)|(with_reducible refine Kd.C_drewN ?_ _)|(with_reducible refine Kd.C_drew ?_))):p:=h
theorem zq48 (h:p:=by repeat(first|exact(Kd.C_below b1.out HB.out)|(with_reducible refine Kd.C_alloc ?_ _)|(with_reducible refine Kd.C_drewN ?_ _)|(with_reducible refine Kd.C_drew ?_))):p:=h
theorem zq49 (h:p:=by repeat(first|(with_reducible first|exact HB.out|apply below_alloc|apply pw_below_drewN|apply below_drew1|refine below_set ?_ (IsS110.ge a0.out))|exact HB.out)):p:=h
theorem zq50 (h:p:=by refine zqfS ?_;exact Kd.S_mono HO_131000.out (fun _ hk=>⟨hk.2,hk.1⟩)):p:=h
theorem zq51 (h:p:=by repeat(first|(with_reducible first|exact HB.out|apply below_alloc|apply pw_below_drewN|apply below_drew1|refine below_set ?_ (IsS110.ge a2.out)|refine below_set ?_ a3.out)|exact HB.out)):p:=h
theorem zq52 (h:p:=by (repeat(first|exact HB7.out|exact HBr.out|apply below_alloc))):p:=h
theorem zq53 (h:p:=by refine zqfQ ?_;exact(Kd.Q_mono (Kd.Q_far (p:=⟨a0,1,none⟩) (Kd.Q_far (p:=⟨a0,0,none⟩) (Kd.Q_types HO_1006001.out a2.out (by decide)) (fun _ hk=>hk.2) (.slice d3 a7.length d1)) (fun _ hk=>hk.2) (.slice d0 a4.length c8)) (fun _ h_=>h_.1))):p:=h
theorem zq54 (h:p:=by refine zqfQ ?_;exact(Kd.Q_mono (Kd.Q_far (p:=⟨a0,1,none⟩) (Kd.Q_far (p:=⟨a0,0,none⟩) (Kd.Q_types HO_1006001.out a2.out (by decide)) (fun _ hk=>hk.2) (.slice d8 a7.length d7)) (fun _ hk=>hk.2) (.slice d6 a4.length d4)) (fun _ h_=>h_.1))):p:=h
theorem zq55 (h:p:=by refine zqfR ?_;exact(Kd.R_mono (Kd.R_far (p:=⟨a0,1,none⟩) (Kd.R_far (p:=⟨a0,0,none⟩) (Kd.R_types HO_4.out a2.out (by decide)) (fun _ hk=>hk.2) (.slice d3 a7.length d1)) (fun _ hk=>hk.2) (.slice d0 a4.length c8)) (fun _ h_=>h_.1))):p:=h
theorem zq56 (h:p:=by refine zqfR ?_;exact(Kd.R_mono (Kd.R_far (p:=⟨a0,1,none⟩) (Kd.R_far (p:=⟨a0,0,none⟩) (Kd.R_types HO_4.out a2.out (by decide)) (fun _ hk=>hk.2) (.slice d8 a7.length d7)) (fun _ hk=>hk.2) (.slice d6 a4.length d4)) (fun _ h_=>h_.1))):p:=h
theorem zq57 (h:p:=by repeat(first|(with_reducible first|exact a0.out|apply IsS110.alloc|apply IsS110.drewN|apply IsS110.drew|apply IsS110.set_1)|exact a0.out)):p:=h
theorem zq58 (h:p:=by refine zqfQ ?_;exact(Kd.Q_mono (Kd.Q_far (p:=⟨a5,1,none⟩) (Kd.Q_far (p:=⟨a5,0,none⟩) (Kd.Q_types d9.out a1.out (by decide)) (fun _ hk=>hk.2) (.slice b9 b3.length b6)) (fun _ hk=>hk.2) (.slice b4 a6.length b1)) (fun _ h_=>h_.1))):p:=h
theorem zq59 (h:p:=by exact(below_size (by repeat(first|(with_reducible first|exact HB.out|apply below_alloc|apply pw_below_drewN|apply below_drew1|refine below_set ?_ b1.out|refine below_set ?_ b4.out|refine below_set ?_ b9.out)|exact HB.out)))):p:=h
theorem zq60 (h:p:=by repeat(first|(with_reducible first|exact a2.out|apply IsS110.alloc|apply IsS110.drewN|apply IsS110.drew|apply IsS110.set_1|refine IsS110.far ?_ a7.out _)|exact a2.out)):p:=h
theorem zq61 (h:p:=by repeat (first | (with_reducible first | exact HB.out | apply below_alloc | apply pw_below_drewN | apply below_drew1) | exact HB.out)):p:=h
theorem zq62 (h:p:=by first|exact Kd.R_nil _ _ _ _ _|exact Kd.N_nil _ _ _ _ _|exact Kd.V_nil _ _ _ _ _|exact Kd.Q_nil _ _ _ _ _|exact Kd.S_nil _ _ _ _ _):p:=h
theorem zq63 (h:p:=by exact(by repeat(first|(with_reducible first|exact HB.out|apply below_alloc|apply pw_below_drewN|apply below_drew1|refine below_set ?_ b1.out|refine below_set ?_ b4.out|refine below_set ?_ b9.out)|exact HB.out))):p:=h
theorem zq64 (h:p:=by refine zqfS ?_;exact Kd.S_mono HO_172000.out (fun _ hk=>⟨trivial,hk⟩)):p:=h
theorem zq65 (h:p:=by rw [hg];exact below_size HB.out):p:=h
theorem zq66 (h:p:=by refine zqfS ?_;exact Kd.S_mono HO_172000.out (fun _ hk=>hk.2)):p:=h
theorem zq67 (h:p:=by repeat(first|(with_reducible first|exact HB.out|apply below_alloc|apply pw_below_drewN|apply below_drew1|refine below_set ?_ b1.out|refine below_set ?_ b2.out|refine below_set ?_ b3.out)|exact HB.out)):p:=h
theorem zq68 (h:p:=by (try simp only [List.map_toArray, List.map_cons, List.map_nil]); first | done | rfl):p:=h
theorem zq69 (h:p:=by exact(fun k_ hk=>Kd.fresh' (Kd.R_lt (zqfR HO_131001.out)) k_ hk)):p:=h
theorem zq70 (h:p:=by exact(below_size (by repeat(first|(with_reducible first|exact HB.out|apply below_alloc|apply pw_below_drewN|apply below_drew1)|exact HB.out)))):p:=h
theorem zq71 (h:p:=by have:=b1.out;have:=b2.out;have:=e8.out;have:=b3.out;have:=h1.out;omega):p:=h
theorem zq72 (h:p:=by have:=b4.out;have:=b3.out;have:=d8.out;have:=g3.out;have:=j1.out;omega):p:=h
theorem zq73 (h:p:=by refine zqe ?_;refine blk_far ?_ c0.out _;refine zqe ?_;exact a2.out):p:=h
theorem zq74 (h:p:=by refine zqe ?_;refine blk_far ?_ c1.out _;refine zqe ?_;exact a4.out):p:=h
theorem zq75 (h:p:=by refine zqe ?_;refine blk_far ?_ c2.out _;refine zqe ?_;exact a7.out):p:=h
theorem zq76 (h:p:=by first|exact Kd.S_nil _ _ _ _ _|exact Kd.N_nil _ _ _ _ _|exact Kd.V_nil _ _ _ _ _|exact Kd.Q_nil _ _ _ _ _|exact Kd.R_nil _ _ _ _ _):p:=h
theorem zq77 (h:p:=by repeat(first|(with_reducible first|exact HB.out|apply below_alloc|apply pw_below_drewN|apply below_drew1|refine below_set ?_ b1.out|refine below_set ?_ b2.out)|exact HB.out)):p:=h
theorem zq78 (h:p:=by exact(by repeat(first|(with_reducible first|exact HB.out|apply below_alloc|apply pw_below_drewN|apply below_drew1)|exact HB.out))):p:=h
theorem zq79 (h:p:=by repeat (first | (with_reducible first | exact HB.out | apply below_alloc | apply pw_below_drewN | apply below_drew1 | refine below_set ?_ GE1123.out) | exact HB.out)):p:=h
theorem zq80 (h:p:=by repeat(first|exact(Kd.C_below a4.out HB.out)|(with_reducible refine Kd.C_alloc ?_ _)|(with_reducible refine Kd.C_drewN ?_ _)|(with_reducible refine Kd.C_drew ?_))):p:=h
theorem zq81 (h:p:=by repeat(first|exact(Kd.C_below a9.out HB.out)|(with_reducible refine Kd.C_alloc ?_ _)|(with_reducible refine Kd.C_drewN ?_ _)|(with_reducible refine Kd.C_drew ?_))):p:=h
theorem zq82 (h:p:=by repeat(first|(with_reducible first|exact HBW.out|apply below_alloc|apply pw_below_drewN|apply below_drew1)|exact HBW.out)):p:=h
theorem zq83 (h:p:=by repeat(first|(with_reducible first|exact HB.out|apply below_alloc|apply pw_below_drewN|apply below_drew1|refine below_set ?_ (IsS110.ge HI0.out))|exact HB.out)):p:=h
theorem zq84 (h:p:=by repeat(first|(with_reducible first|exact HK.out|apply KeepBut.set_|apply keep_drewN|apply keep_drew|apply keep_alloc|refine keep_far ?_ a9.out _)|exact HK.out)):p:=h
theorem zq85 (h:p:=by refine zqfS ?_;exact Kd.S_mono HO_241000.out (fun _ hk=>⟨hk.2,hk.1⟩)):p:=h
theorem zq86 (h:p:=by refine zqfQ ?_;exact(Kd.Q_mono (Kd.Q_far (p:=⟨a3,1,none⟩) (Kd.Q_far (p:=⟨a3,0,none⟩) (Kd.Q_types HO_1006001.out a8.out (by decide)) (fun _ hk=>hk.2) (.slice e8 c1.length e9)) (fun _ hk=>hk.2) (.slice e4 b7.length e5)) (fun _ h_=>h_.1))):p:=h
theorem zq87 (h:p:=by refine zqfQ ?_;exact(Kd.Q_mono (Kd.Q_far (p:=⟨a3,1,none⟩) (Kd.Q_far (p:=⟨a3,0,none⟩) (Kd.Q_types HO_1006001.out a8.out (by decide)) (fun _ hk=>hk.2) (.slice f5 c1.length f6)) (fun _ hk=>hk.2) (.slice f2 b7.length f4)) (fun _ h_=>h_.1))):p:=h
theorem zq88 (h:p:=by refine zqfS ?_;exact(Kd.S_mono (Kd.S_far (p:=⟨a0,1,none⟩) (Kd.S_far (p:=⟨a0,0,none⟩) (Kd.S_types HO_1006000.out a2.out (by decide)) (fun _ hk=>hk.2) (.slice d3 a7.length d1)) (fun _ hk=>hk.2) (.slice d0 a4.length c8)) (fun _ h_=>h_.1))):p:=h
theorem zq89 (h:p:=by refine zqfS ?_;exact(Kd.S_mono (Kd.S_far (p:=⟨a0,1,none⟩) (Kd.S_far (p:=⟨a0,0,none⟩) (Kd.S_types HO_1006000.out a2.out (by decide)) (fun _ hk=>hk.2) (.slice d8 a7.length d7)) (fun _ hk=>hk.2) (.slice d6 a4.length d4)) (fun _ h_=>h_.1))):p:=h
theorem zq90 (h:p:=by refine zqfS ?_;exact(Kd.S_mono (Kd.S_far (p:=⟨a3,1,none⟩) (Kd.S_far (p:=⟨a3,0,none⟩) (Kd.S_types HO_1006000.out a8.out (by decide)) (fun _ hk=>hk.2) (.slice e8 c1.length e9)) (fun _ hk=>hk.2) (.slice e4 b7.length e5)) (fun _ h_=>h_.1))):p:=h
theorem zq91 (h:p:=by refine zqfS ?_;exact(Kd.S_mono (Kd.S_far (p:=⟨a3,1,none⟩) (Kd.S_far (p:=⟨a3,0,none⟩) (Kd.S_types HO_1006000.out a8.out (by decide)) (fun _ hk=>hk.2) (.slice f5 c1.length f6)) (fun _ hk=>hk.2) (.slice f2 b7.length f4)) (fun _ h_=>h_.1))):p:=h
theorem zq92 (h:p:=by refine zqfR ?_;exact(Kd.R_mono (Kd.R_far (p:=⟨a3,1,none⟩) (Kd.R_far (p:=⟨a3,0,none⟩) (Kd.R_types HO_4.out a8.out (by decide)) (fun _ hk=>hk.2) (.slice e8 c1.length e9)) (fun _ hk=>hk.2) (.slice e4 b7.length e5)) (fun _ h_=>h_.1))):p:=h
theorem zq93 (h:p:=by refine zqfR ?_;exact(Kd.R_mono (Kd.R_far (p:=⟨a3,1,none⟩) (Kd.R_far (p:=⟨a3,0,none⟩) (Kd.R_types HO_4.out a8.out (by decide)) (fun _ hk=>hk.2) (.slice f5 c1.length f6)) (fun _ hk=>hk.2) (.slice f2 b7.length f4)) (fun _ h_=>h_.1))):p:=h
theorem zq94 (h:p:=by refine zqfS ?_;exact(Kd.S_mono (Kd.S_far (p:=⟨a5,1,none⟩) (Kd.S_far (p:=⟨a5,0,none⟩) (Kd.S_types f0.out a1.out (by decide)) (fun _ hk=>hk.2) (.slice b9 b3.length b6)) (fun _ hk=>hk.2) (.slice b4 a6.length b1)) (fun _ h_=>h_.1))):p:=h
theorem zq95 (h:p:=by exact (below_size (by repeat (first | (with_reducible first | exact HB.out | apply below_alloc | apply pw_below_drewN | apply below_drew1 | refine below_set ?_ GE1123.out | refine below_set ?_ GE1124.out) | exact HB.out)))):p:=h
theorem zq96 (h:p:=by have:=b0.out;have:=b7.out;have:=b8.out;omega):p:=h
theorem zq97 (h:p:=by repeat(first|(with_reducible first|exact HB.out|apply below_alloc|apply pw_below_drewN|apply below_drew1|refine below_set ?_ a6.out)|exact HB.out)):p:=h
theorem zq98 (h:p:=by repeat(first|exact a6.out|(with_reducible refine Kd.C_alloc ?_ _)|(with_reducible refine Kd.C_drewN ?_ _)|(with_reducible refine Kd.C_drew ?_))):p:=h
theorem zq99 (h:p:=by have:=b1.out;have:=b2.out;have:=e7.out;have:=b3.out;have:=g5.out;omega):p:=h
theorem zq100 (h:p:=by have:=c8.out;have:=d0.out;have:=f0.out;have:=e7.out;have:=g2.out;omega):p:=h
theorem zq101 (h:p:=by have:=d1.out;have:=d2.out;have:=d5.out;have:=e0.out;have:=g3.out;omega):p:=h
theorem zq102 (h:p:=by exact (by repeat (first | (with_reducible first | exact HB.out | apply below_alloc | apply pw_below_drewN | apply below_drew1 | refine below_set ?_ GE1123.out | refine below_set ?_ GE1124.out) | exact HB.out))):p:=h
theorem zq103 (h:p:=by repeat(first|(with_reducible first|exact HI0.out|apply IsS110.alloc|apply IsS110.drewN|apply IsS110.drew|apply IsS110.set_1)|exact HI0.out)):p:=h
theorem zq104 (h:p:=by repeat(first|(with_reducible first|exact a2.out|apply IsS110.alloc|apply IsS110.drewN|apply IsS110.drew|apply IsS110.set_1)|exact a2.out)):p:=h
theorem zq105 (h:p:=by first | rfl | (simp; done) | (simp [*]; done)):p:=h
theorem zq106 (h:p:=by refine zqfS ?_; exact Kd.S_mono HO_1125000.out (fun _ hk => by first | exact ⟨hk.2, hk.1⟩ | exact hk)):p:=h
theorem zq107 (h:p:=by repeat(first|exact HB2.out|apply pw_below_drewN|apply below_drew1)):p:=h
theorem zq108 (h:p:=by first|(go_simp;done)|(simp;done)|assumption|(go_simp;assumption)):p:=h
theorem zq109 (h:p:=by repeat(first|exact HD.out|apply Drawn0.step|(refine Drawn0.trans HD.out ?_)|exact Drawn0.refl _)):p:=h
theorem zq110 (h:p:=by refine zqe ?_;refine blk_put (cs:= #[.slice none 0 0,.slice none 0 0]) ?_ 1 _ rfl;refine zqe ?_;refine blk_put (cs:= #[.slice none 0 0,.slice none 0 0]) ?_ 0 _ rfl;refine zqe ?_;exact a0.out):p:=h
theorem zq111 (h:p:=by refine zqe ?_;refine blk_put (cs:= #[.slice none 0 0,.slice none 0 0]) ?_ 1 _ rfl;refine zqe ?_;refine blk_put (cs:= #[.slice none 0 0,.slice none 0 0]) ?_ 0 _ rfl;refine zqe ?_;exact a1.out):p:=h
theorem zq112 (h:p:=by repeat (first | exact HB1.out | apply below_alloc | apply pw_below_drewN | apply below_drew1)):p:=h
theorem zq113 (h:p:=by repeat(first|exact Kd.C_below HR0.out HB.out|(refine Kd.C_drewN ?_ _)|(refine Kd.C_drew ?_))):p:=h
theorem zq114 (h:p:=by refine zqfR ?_;exact Kd.R_mono HO_131001.out (fun _ hk=>hk.2)):p:=h
theorem zq115 (h:p:=by exact(by refine zqfS ?_;exact Kd.S_mono HO_131000.out (fun k_ hk=>⟨hk.2,fun e_=>hk.1 e_⟩))):p:=h
theorem zq116 (h:p:=by refine zqfR ?_;exact Kd.R_mono HO_131001.out (fun _ hk=>⟨trivial,hk⟩)):p:=h
theorem zq117 (h:p:=by have:=i8.out;have:=o3.out;first|omega|exact Nat.le_refl _):p:=h
theorem zq118 (h:p:=by repeat(first|exact(Kd.S_reads' HO_1006000.out).2.2|(with_reducible refine Kd.C_alloc ?_ _)|(with_reducible refine Kd.C_drewN ?_ _)|(with_reducible refine Kd.C_drew ?_))):p:=h
theorem zq119 (h:p:=by refine zqe ?_;refine blk_put (cs:= #[b0,a1]) ?_ 0 _ rfl;refine zqe ?_;exact a0.out):p:=h
theorem zq120 (h:p:=by repeat(first|exact(Kd.C_below a5.out HB.out)|(with_reducible refine Kd.C_alloc ?_ _)|(with_reducible refine Kd.C_drewN ?_ _)|(with_reducible refine Kd.C_drew ?_))):p:=h
theorem zq121 (h:p:=by repeat(first|exact(Kd.C_below a7.out HB.out)|(with_reducible refine Kd.C_alloc ?_ _)|(with_reducible refine Kd.C_drewN ?_ _)|(with_reducible refine Kd.C_drew ?_))):p:=h
theorem zq122 (h:p:=by repeat(first|exact(Kd.C_below b2.out HB.out)|(with_reducible refine Kd.C_alloc ?_ _)|(with_reducible refine Kd.C_drewN ?_ _)|(with_reducible refine Kd.C_drew ?_))):p:=h
theorem zq123 (h:p:=by repeat(first|exact(Kd.C_below e1.out HB.out)|(with_reducible refine Kd.C_alloc ?_ _)|(with_reducible refine Kd.C_drewN ?_ _)|(with_reducible refine Kd.C_drew ?_))):p:=h
theorem zq124 (h:p:=by repeat(first|exact(Kd.S_reads' HO_3.out).2.2|(with_reducible refine Kd.C_alloc ?_ _)|(with_reducible refine Kd.C_drewN ?_ _)|(with_reducible refine Kd.C_drew ?_))):p:=h
theorem zq126 (h:p:=by repeat(first|exact(Kd.R_reads' c6.out).2.2|(with_reducible refine Kd.C_alloc ?_ _)|(with_reducible refine Kd.C_drewN ?_ _)|(with_reducible refine Kd.C_drew ?_))):p:=h
theorem zq127 (h:p:=by repeat(first|exact(Kd.S_reads' d5.out).2.2|(with_reducible refine Kd.C_alloc ?_ _)|(with_reducible refine Kd.C_drewN ?_ _)|(with_reducible refine Kd.C_drew ?_))):p:=h
theorem zq128 (h:p:=by exact fun x y b W he hW=>by obtain rfl:=Option.some.inj he;exact sets_c1 x y W):p:=h
theorem zq129 (h:p:=by first|go_num|(rw [wrap_small (by omega) (by have:=HLT.out;have:=HT6.out;have:=HNS.out;omega)];go_num)):p:=h
theorem zq130 (h:p:=by first|rfl|(simp [errW_none,errW_some] <;> rfl)|(simp only [← d5];first|rfl|(simp [errW_none,errW_some] <;> rfl))|(simp [*,errW_none,errW_some] <;> rfl)):p:=h
theorem zq131 (h:p:=by first | (with_reducible assumption) | assumption):p:=h
theorem zq132 (h:p:=by repeat(first|exact b7.out|(with_reducible refine Kd.C_alloc ?_ _)|(with_reducible refine Kd.C_drewN ?_ _)|(with_reducible refine Kd.C_drew ?_))):p:=h
theorem zq133 (h:p:=by repeat(first|exact d2.out|(with_reducible refine Kd.C_alloc ?_ _)|(with_reducible refine Kd.C_drewN ?_ _)|(with_reducible refine Kd.C_drew ?_))):p:=h
theorem zq134 (h:p:=by (repeat(first|exact HOr2.out|apply Kd.R_alloc))):p:=h
theorem zq135 (h:p:=by have:=b4.out;have:=b3.out;have:=d8.out;first|omega|exact Nat.le_refl _):p:=h
theorem zq136 (h:p:=by repeat (first | exact HB3.out | apply below_alloc | apply pw_below_drewN | apply below_drew1)):p:=h
theorem zq137 (h:p:=by (repeat(first|exact HA7.out|apply Kd.R_alloc))):p:=h
theorem zq138 (h:p:=by have:=a2.out;have:=a6.out;have:=a7.out;omega):p:=h
theorem zq139 (h:p:=by repeat(first|exact HB3.out|apply pw_below_drewN|apply below_drew1)):p:=h
theorem zq140 (h:p:=by first|go_num|(rw [wrap_small (by omega) (by have:=HLK.out;have:=HSM.out;omega)];go_num)):p:=h
theorem zq141 (h:p:=by repeat(first|exact HB2.out|apply below_alloc|apply pw_below_drewN|apply below_drew1)):p:=h
theorem zq142 (h:p:=by have:=d1.out;have:=d2.out;have:=d5.out;have:=e0.out;first|omega|exact Nat.le_refl _):p:=h
theorem zq143 (h:p:=by exact Kd.C_below HR0.out HB.out):p:=h
theorem zq144 (h:p:=by first|omega|exact Nat.le_refl _):p:=h
theorem zq145 (h:p:=by have:=a7.out;have:=a8.out;omega):p:=h
theorem zq146 (h:p:=by have:=d1.out;have:=d2.out;omega):p:=h
theorem zq147 (h:p:=by refine zqfQ ?_;exact Kd.Q_mono HO_241001.out (fun _ hk=>hk.2)):p:=h
theorem zq148 (h:p:=by repeat(first|exact Below.refl _ _|apply pw_below_drewN|apply below_drew1)):p:=h
theorem zq149 (h:p:=by exact(fun k_ hk=>⟨Kd.fresh' (Kd.R_lt (zqfR HO_5.out)) k_ hk,Kd.fresh' (Kd.R_lt (zqfR HO_218001.out)) k_ hk⟩)):p:=h
theorem zq150 (h:p:=by refine zqe ?_;refine blk_far ?_ e1.out _;refine zqe ?_;refine blk_far ?_ e1.out _;refine zqe ?_;exact a1.out):p:=h
theorem zq151 (h:p:=by refine zqe ?_;refine blk_far ?_ e2.out _;refine zqe ?_;refine blk_far ?_ e2.out _;refine zqe ?_;exact a1.out):p:=h
theorem zq152 (h:p:=by refine zqe ?_;refine blk_far ?_ e3.out _;refine zqe ?_;refine blk_far ?_ e3.out _;refine zqe ?_;exact a2.out):p:=h
theorem zq153 (h:p:=by rw [hg];exact Nat.le_refl _):p:=h
theorem zq154 (h:p:=by have:=b2.out;have:=b3.out;have:=b6.out;first|omega|exact Nat.le_refl _):p:=h
theorem zq155 (h:p:=by refine zqfQ ?_;exact Kd.Q_mono HO_241001.out (fun _ hk=>⟨trivial,hk⟩)):p:=h
theorem zq156 (h:p:=by have:=HLT.out;have:=HL.out;omega):p:=h
theorem zq157 (h:p:=by refine zqfR ?_;exact Kd.R_mono HO_5.out (fun _ hk=>⟨hk.2,hk.1⟩)):p:=h
theorem zq158 (h:p:=by exact Kd.C_below HR1.out HB.out):p:=h
theorem zq159 (h:p:=by have:=a5.out;have:=a6.out;omega):p:=h
theorem zq160 (h:p:=by have:=b0.out;have:=b1.out;omega):p:=h
theorem zq161 (h:p:=by have:=d7.out;have:=j0.out;omega):p:=h
theorem zq162 (h:p:=by have:=e0.out;have:=j2.out;omega):p:=h
theorem zq163 (h:p:=by have:=f5.out;have:=f6.out;omega):p:=h
theorem zq164 (h:p:=by have:=t4.out;have:=t5.out;have:=HK3.out;omega):p:=h
theorem zq165 (h:p:=by first|go_num|(rw [wrap_small (by omega) (by have:=HLTb.out;have:=HSM.out;omega)];go_num)):p:=h
theorem zq166 (h:p:=by have:=a8.out;have:=b0.out;have:=b1.out;omega):p:=h
theorem zq167 (h:p:=by have:=e4.out;have:=j1.out;have:=j2.out;omega):p:=h
theorem zq168 (h:p:=by first|go_num|(rw [wrap_small (by omega) (by have:=HLT.out;have:=HM3.out;omega)];go_num)):p:=h
theorem zq169 (h:p:=by first | (rw [← HSI.out]; exact HJj.out) | (rw [← HSI.out]; exact HD.out _ _ _ HJj.out)):p:=h
theorem zq170 (h:p:=by have:=b2.out;have:=b3.out;first|omega|exact Nat.le_refl _):p:=h
theorem zq171 (h:p:=by refine zqfS ?_;exact Kd.S_mono HO_3.out (fun _ hk=>hk.2)):p:=h
theorem zq172 (h:p:=by have:=b1.out;have:=b2.out;have:=e7.out;have:=b3.out;first|omega|exact Nat.le_refl _):p:=h
theorem zq173 (h:p:=by refine zqe ?_; refine blk_far ?_ NB1123_1124.out _; refine zqe ?_; exact BK1123.out):p:=h
theorem zq174 (h:p:=by first | (go_simp; done) | (go_simp; rfl)):p:=h
theorem zq175 (h:p:=by refine zqfS ?_;exact Kd.S_mono HO_218000.out (fun _ hk=>⟨hk.1.1,⟨hk.2,hk.1.2⟩⟩)):p:=h
theorem zq176 (h:p:=by (repeat(first|exact HG7.out|refine blk_alloc ?_ _))):p:=h
theorem zq177 (h:p:=by (repeat(first|exact HGr.out|refine blk_alloc ?_ _))):p:=h
theorem zq178 (h:p:=by (repeat(first|exact HX7.out|refine blk_alloc ?_ _))):p:=h
theorem zq179 (h:p:=by (repeat(first|exact HXr.out|refine blk_alloc ?_ _))):p:=h
theorem zq180 (h:p:=by refine zqfS ?_;exact Kd.S_mono HO_3.out (fun k_ hk=>⟨trivial,fun e_=>hk e_⟩)):p:=h
theorem zq181 (h:p:=by exact(Kd.S_reads' HO_1006000.out).2.1):p:=h
theorem zq182 (h:p:=by (repeat(first|exact HrO7.out|apply Kd.R_alloc))):p:=h
theorem zq184 (h:p:=by have:=c8.out;have:=d0.out;have:=f0.out;first|omega|exact Nat.le_refl _):p:=h
theorem zq185 (h:p:=by have:=d1.out;have:=d2.out;have:=d5.out;first|omega|exact Nat.le_refl _):p:=h
theorem zq186 (h:p:=by (repeat(first|exact HAr.out|apply Kd.R_alloc))):p:=h
theorem zq187 (h:p:=by (repeat(first|exact HO7.out|apply Kd.R_alloc))):p:=h
theorem zq188 (h:p:=by (repeat(first|exact HV7.out|apply Kd.R_alloc))):p:=h
theorem zq189 (h:p:=by (repeat(first|exact HVr.out|apply Kd.R_alloc))):p:=h
theorem zq190 (h:p:=by (repeat(first|exact HrA.out|apply Kd.R_alloc))):p:=h
theorem zq191 (h:p:=by (repeat(first|exact HrO.out|apply Kd.R_alloc))):p:=h
theorem zq192 (h:p:=by refine zqe ?_;refine blk_far ?_ b7.out _;refine zqe ?_;exact a2.out):p:=h
theorem zq193 (h:p:=by refine zqe ?_;refine blk_far ?_ b8.out _;refine zqe ?_;exact a4.out):p:=h
theorem zq194 (h:p:=by have:=i8.out;first|omega|exact Nat.le_refl _):p:=h
theorem zq195 (h:p:=by have:=a9.out;have:=b0.out;omega):p:=h
theorem zq196 (h:p:=by have:=b4.out;have:=b3.out;omega):p:=h
theorem zq197 (h:p:=by have:=e8.out;have:=e9.out;omega):p:=h
theorem zq198 (h:p:=by have := HK1.out; have := HK2.out; omega):p:=h
theorem zq199 (h:p:=by exact(Kd.R_reads' a9.out).2.1):p:=h
theorem zq200 (h:p:=by exact(Kd.S_reads' b2.out).2.1):p:=h
theorem zq201 (h:p:=by exact(Kd.Q_reads' HO_1006001.out).2.1):p:=h
end
end Go.Proofs.Ytcbjpdaogicibaa
end
section
namespace Go.Proofs.Ytcbjpdaogicibaa.Print
open Go.RowKit Go.Proofs.YtcbjpdaogicibaaW.PrintWords Go.Proofs.YtcbjpdaogicibaaW.PrintLast Go.Proofs.YtcbjpdaogicibaaW.PrintMore
section
attribute [local go_sem] max2_int min2_int max_two min_two max_three min_three max_four min_four
def errW : Option Int → Value
 | none => .nilIface
 | some c => .iface 0 (.int .i64 c)
theorem errW_none : errW none = .nilIface := rfl
theorem errW_some (c : Int) : errW (some c) = .iface 0 (.int .i64 c) := rfl
theorem info3 : (Try.prog.info? 3).map (fun i => (i.zero, i.size, i.bytes)) = some (some (.int .i64 0), 1, 8) := by kernel_rfl
theorem info5 : (Try.prog.info? 5).map (fun i => (i.zero, i.size, i.bytes)) = some (some (.int .u8 0), 1, 1) := by kernel_rfl
theorem info24 : (Try.prog.info? 24).map (fun i => (i.zero, i.size, i.bytes)) = some (some (.slice none 0 0), 1, 24) := by kernel_rfl
def rd_L2 (xs : List (List Int)) (i : Int) : (List Int) := xs.getD i.toNat ([] : List Int)
theorem at_L2 {w : World} {A : Option Addr} {n : Nat} {xs : List (List Int)} (h : Kd.C (Kd.slice 3 (Kd.int .i64)) w A n xs) (i : Int) (h0 : 0 ≤ i) (h1 : i < n) : ∃ ad A0 c0, A = some ad ∧ w.cell? (ad.add i.toNat) = some (.slice A0 (rd_L2 xs i).length c0) ∧ (rd_L2 xs i).length ≤ c0 ∧ (Kd.int .i64).C w A0 (rd_L2 xs i).length (rd_L2 xs i) := by
 obtain ⟨ad, c, e, _, hK, hc0⟩ := Kd.C_get h ([] : List Int) i h0 h1
 have hc : ∀ j u, c[j]? = some u → w.cell? (ad.add (i.toNat * 1 + j)) = some u := hc0
 obtain ⟨A0, c0, rfl, l0, g0⟩ := hK
 exact ⟨ad, A0, c0, e, by have hq := hc 0 _ rfl; rwa [Nat.mul_one, Nat.add_zero] at hq, l0, g0⟩
end
section
attribute [local go_sem] max2_int min2_int max_two min_two max_three min_three max_four min_four
mutual
def impl_OrderOk.j0 : Nat → List (List Int) → Int → Bool → Option (Bool)
 | 0, _, _, _ => none
 | k + 1, x0, x3, x18 => if x18 = true then (some false) else (impl_OrderOk.l0 k x0 x3 x0 (x0.length : Int) 0)
def impl_OrderOk.l0 : Nat → List (List Int) → Int → List (List Int) → Int → Int → Option (Bool)
 | 0, _, _, _, _, _ => none
 | k + 1, x0, x3, x19, x20, x21 => if x21 < x20 then (if 0 ≤ x21 then (if x21 < (x19.length : Int) then (if ((rd_L2 x19 x21).length : Int) = x3 then (if x21 < ((rd_L2 x19 x21).length : Int) then (impl_OrderOk.j2 k x0 x3 x21 (rd_L2 x19 x21) x19 x20 x21 ((rd (rd_L2 x19 x21) x21) != 1)) else (none)) else (impl_OrderOk.j2 k x0 x3 x21 (rd_L2 x19 x21) x19 x20 x21 true)) else (none)) else (none)) else (impl_OrderOk.l2 k x0 x3 x3 0)
def impl_OrderOk.j2 : Nat → List (List Int) → Int → Int → List Int → List (List Int) → Int → Int → Bool → Option (Bool)
 | 0, _, _, _, _, _, _, _, _ => none
 | k + 1, x0, x3, x4, x5, x19, x20, x21, x36 => if x36 = true then (some false) else (impl_OrderOk.l1 k x0 x3 x4 x19 x20 x21 x5 (x5.length : Int) 0)
def impl_OrderOk.l1 : Nat → List (List Int) → Int → Int → List (List Int) → Int → Int → List Int → Int → Int → Option (Bool)
 | 0, _, _, _, _, _, _, _, _, _ => none
 | k + 1, x0, x3, x4, x19, x20, x21, x37, x38, x39 => if x39 < x38 then (if 0 ≤ x39 then (if x39 < (x37.length : Int) then (if (rd x37 x39) = 0 then (impl_OrderOk.j4 k x0 x3 x4 x39 (rd x37 x39) x19 x20 x21 x37 x38 x39 false) else (impl_OrderOk.j4 k x0 x3 x4 x39 (rd x37 x39) x19 x20 x21 x37 x38 x39 ((rd x37 x39) != 1))) else (none)) else (none)) else (impl_OrderOk.l0 k x0 x3 x19 x20 (wrap64 (x21 + 1)))
def impl_OrderOk.j4 : Nat → List (List Int) → Int → Int → Int → Int → List (List Int) → Int → Int → List Int → Int → Int → Bool → Option (Bool)
 | 0, _, _, _, _, _, _, _, _, _, _, _, _ => none
 | k + 1, x0, x3, x4, x6, x7, x19, x20, x21, x37, x38, x39, x49 => if x49 = true then (some false) else (if 0 ≤ x6 then (if x6 < (x0.length : Int) then (if ((rd_L2 x0 x6).length : Int) = x3 then (if x7 = 1 then (if x4 = x6 then (impl_OrderOk.l1 k x0 x3 x4 x19 x20 x21 x37 x38 (wrap64 (x39 + 1))) else (if 0 ≤ x4 then (if x4 < ((rd_L2 x0 x6).length : Int) then (if (rd (rd_L2 x0 x6) x4) = 1 then (some false) else (impl_OrderOk.l1 k x0 x3 x4 x19 x20 x21 x37 x38 (wrap64 (x39 + 1)))) else (none)) else (none))) else (impl_OrderOk.l1 k x0 x3 x4 x19 x20 x21 x37 x38 (wrap64 (x39 + 1)))) else (some false)) else (none)) else (none))
def impl_OrderOk.l2 : Nat → List (List Int) → Int → Int → Int → Option (Bool)
 | 0, _, _, _, _ => none
 | k + 1, x0, x3, x78, x79 => if x79 < x78 then (impl_OrderOk.l3 k x0 x3 x79 x78 x79 x3 0) else (some true)
def impl_OrderOk.l3 : Nat → List (List Int) → Int → Int → Int → Int → Int → Int → Option (Bool)
 | 0, _, _, _, _, _, _, _ => none
 | k + 1, x0, x3, x8, x78, x79, x82, x83 => if x83 < x82 then (impl_OrderOk.l4 k x0 x3 x8 x83 x78 x79 x82 x83 x3 0) else (impl_OrderOk.l2 k x0 x3 x78 (wrap64 (x79 + 1)))
def impl_OrderOk.l4 : Nat → List (List Int) → Int → Int → Int → Int → Int → Int → Int → Int → Int → Option (Bool)
 | 0, _, _, _, _, _, _, _, _, _, _ => none
 | k + 1, x0, x3, x8, x9, x78, x79, x82, x83, x86, x87 => if x87 < x86 then (if 0 ≤ x8 then (if x8 < (x0.length : Int) then (if 0 ≤ x9 then (if x9 < ((rd_L2 x0 x8).length : Int) then (if (rd (rd_L2 x0 x8) x9) = 1 then (if x9 < (x0.length : Int) then (if 0 ≤ x87 then (if x87 < ((rd_L2 x0 x9).length : Int) then (if (rd (rd_L2 x0 x9) x87) = 1 then (if x87 < ((rd_L2 x0 x8).length : Int) then (if (rd (rd_L2 x0 x8) x87) = 1 then (impl_OrderOk.l4 k x0 x3 x8 x9 x78 x79 x82 x83 x86 (wrap64 (x87 + 1))) else (some false)) else (none)) else (impl_OrderOk.l4 k x0 x3 x8 x9 x78 x79 x82 x83 x86 (wrap64 (x87 + 1)))) else (none)) else (none)) else (none)) else (impl_OrderOk.l4 k x0 x3 x8 x9 x78 x79 x82 x83 x86 (wrap64 (x87 + 1)))) else (none)) else (none)) else (none)) else (none)) else (impl_OrderOk.l3 k x0 x3 x8 x78 x79 x82 (wrap64 (x83 + 1)))
end
def impl_OrderOk.f (k : Nat) (l0 : List (List Int)) : Option (Bool) := if (l0.length : Int) < 1 then (impl_OrderOk.j0 k l0 (l0.length : Int) true) else (impl_OrderOk.j0 k l0 (l0.length : Int) (decide ((l0.length : Int) > 12)))
set_option maxHeartbeats 8000000 in
set_option maxRecDepth 100000 in
theorem impl_OrderOk.calls (k : Nat) (A0 : Option Addr) (c0 : Nat) (l0 : List (List Int)) (r : Bool) (w : World) (hr0 : Kd.C (Kd.slice 3 (Kd.int .i64)) w A0 l0.length l0) (hc0 : l0.length ≤ c0) (h : impl_OrderOk.f k l0 = some r) :
  Calls Try.prog 81 #[.slice A0 l0.length c0] w fun e w' => e = .returned (.bool r) ∧ Drawn0 w w' := by
 have c2:=zqm hr0;have w2:=zqm hc0;clear hr0 hc0;have H:(if(l0.length:Int)<1 then(impl_OrderOk.j0 k l0 (l0.length:Int) true) else(impl_OrderOk.j0 k l0 (l0.length:Int) (decide ((l0.length:Int)>12))))=some r:=h;clear h;have p4:=zqm H;clear H
 go_enter Try.func81,Try.ntmps81
 go_upto_region 2 with (fail)
 go_cut [18] (fun t5 wc=> ∃(kq:Nat) (h2:Bool),t5= .bool h2∧Aside0 (impl_OrderOk.j0 kq l0 (l0.length:Int) h2=some r)∧Aside0 (kq≤k)∧Drawn0 w wc)
 case first=>
  have H:=p4.out;clear p4
  by_cases c3:(l0.length:Int)<1
  ·rw [if_pos c3] at H;have i2:decide ((l0.length:Int)<1)=true:=decide_eq_true c3;have s2:decide (l0.length<1)=true:=decide_eq_true (by omega);clear c3;(first|rw [i2]|(simp only [i64_w,i32_w];rw [i2])|skip);have H':=zqm H;clear H
   go_wp2
   go_meet
   case rel=>exact⟨_,(true),zq6,H',⟨zq144⟩,zq8⟩
  ·rw [if_neg c3] at H;have i2:decide ((l0.length:Int)<1)=false:=decide_eq_false c3;have s2:decide (l0.length<1)=false:=decide_eq_false (by omega);clear c3;(first|rw [i2]|(simp only [i64_w,i32_w];rw [i2])|skip);have H':=zqm H;clear H
   go_wp2
   go_meet
   case rel=>exact⟨_,(decide ((l0.length:Int)>12)),zq6,H',⟨zq144⟩,zq8⟩
 case rest=>
  clear p4;obtain⟨kq,h2,rfl,HA,b1,⟨mc1,rfl⟩⟩:=hcut
  cases kq with
  |zero=>exact absurd HA.out (by simp [impl_OrderOk.j0])
  |succ s0=>
   have H:=HA.out;clear HA;simp only [impl_OrderOk.j0] at H
   by_cases c4:h2=true
   ·subst c4;rw [if_pos rfl] at H;obtain rfl:=Option.some.inj H
    go_wp2
    go_ret
    exact⟨zq6,zq8⟩
   ·replace c4:=Bool.eq_false_iff.mpr c4;subst c4;rw [if_neg (show¬(false=true) by decide)] at H;have H':=zqm H;clear H
    go_wp2
    go_loopg [21] s0 (fun kq t6 w'=> ∃(a0:Int),t6= .int .i64 a0∧Aside0 (impl_OrderOk.l0 kq l0 (l0.length:Int) l0 (l0.length:Int) a0=some r)∧Aside0 (kq≤s0)∧Drawn0 w w')
    case atStart=>exact⟨(0),zq6,H',⟨Nat.le_refl _⟩,zq8⟩
    case round=>
     clear H';obtain⟨a0,rfl,HA,b2,⟨m2,rfl⟩⟩:=hrel
     cases gk with
     |zero=>exact absurd HA.out (by simp [impl_OrderOk.l0])
     |succ k2=>
      have H:=HA.out;clear HA;simp only [impl_OrderOk.l0] at H
      by_cases c5:a0<(l0.length:Int)
      ·rw [if_pos c5] at H;have s3:decide (a0<(l0.length:Int))=true:=decide_eq_true c5;clear c5
       by_cases c6:0≤a0
       ·rw [if_pos c6] at H;have w0:decide (0≤a0)=true:=decide_eq_true c6;clear c6
        by_cases c7:a0<(l0.length:Int)
        ·rw [if_pos c7] at H;have w1:decide (a0<(l0.length:Int))=true:=decide_eq_true c7;clear c7;have p5:=zqm H;clear H;have m0:0≤(a0:Int):=zqo;have m7:a0<(l0.length:Int):=zqo;obtain⟨e2,t3,t4,s6,t0,j7,j6⟩:=at_L2 c2.out a0 m0 m7
         cases s6
         have i8:=zqm j6;have s9:=zqm j7;clear j6 j7;replace m0:=eq_true m0;replace m7:=eq_true m7
         go_upto_region 7 with (fail)
         go_cut [36] (fun t7 wc=> ∃(kq:Nat) (h3:Bool),t7= .bool h3∧Aside0 (impl_OrderOk.j2 kq l0 (l0.length:Int) a0 (rd_L2 l0 a0) l0 (l0.length:Int) a0 h3=some r)∧Aside0 (kq≤k2)∧Drawn0 w wc)
         case first=>
          have H:=p5.out;clear p5
          by_cases c9:((rd_L2 l0 a0).length:Int)=(l0.length:Int)
          ·rw [if_pos c9] at H;have i4:(((rd_L2 l0 a0).length:Int)==(l0.length:Int))=true:=beq_iff_eq.mpr c9;have s4:(((rd_L2 l0 a0).length:Int) !=(l0.length:Int))=false:=bne_eq_false_iff_eq.mpr c9;(have s5:((rd_L2 l0 a0).length==l0.length)=true:=by first|simpa using c9|(simp at c9 ⊢;omega));clear c9;(first|rw [i4]|(simp only [i64_w,i32_w];rw [i4])|skip)
           by_cases n1:a0<((rd_L2 l0 a0).length:Int)
           ·rw [if_pos n1] at H;have u5:decide (a0<((rd_L2 l0 a0).length:Int))=true:=decide_eq_true n1;clear n1;have H':=zqm H;clear H;have m1:0≤(a0:Int):=zqo;have m8:a0<((rd_L2 l0 a0).length:Int):=zqo;obtain⟨u3,s7,t1⟩:=Kd.at_int i8.out a0 m1 m8
            cases s7
            replace m1:=eq_true m1;replace m8:=eq_true m8
            go_wp2
            go_meet
            case rel=>exact⟨_,(((rd (rd_L2 l0 a0) a0) !=1)),zq6,H',⟨by have:=b1.out;have:=b2.out;first|omega|exact Nat.le_refl _⟩,zq8⟩
           ·rw [if_neg n1] at H;exact absurd H (by simp)
          ·rw [if_neg c9] at H;have i4:(((rd_L2 l0 a0).length:Int)==(l0.length:Int))=false:=beq_eq_false_iff_ne.mpr c9;have s4:(((rd_L2 l0 a0).length:Int) !=(l0.length:Int))=true:=bne_iff_ne.mpr c9;(have s5:((rd_L2 l0 a0).length==l0.length)=false:=by first|simpa using c9|(simp at c9 ⊢;omega));(first|rw [i4]|(simp only [i64_w,i32_w];rw [i4])|skip);have H':=zqm H;clear H
           go_wp2
           go_meet
           case rel=>exact⟨_,(true),zq6,H',⟨by have:=b1.out;have:=b2.out;first|omega|exact Nat.le_refl _⟩,zq8⟩
         case rest=>
          clear p5;obtain⟨kq,h3,rfl,HA,e7,⟨mc7,rfl⟩⟩:=hcut
          cases kq with
          |zero=>exact absurd HA.out (by simp [impl_OrderOk.j2])
          |succ s1=>
           have H:=HA.out;clear HA;simp only [impl_OrderOk.j2] at H
           by_cases n2:h3=true
           ·subst n2;rw [if_pos rfl] at H;obtain rfl:=Option.some.inj H
            go_wp2
            go_ret
            exact⟨zq6,zq8⟩
           ·replace n2:=Bool.eq_false_iff.mpr n2;subst n2;rw [if_neg (show¬(false=true) by decide)] at H;have H':=zqm H;clear H
            go_wp2
            go_loopg [39] s1 (fun kq t8 w'=> ∃(a1:Int),t8= .int .i64 a1∧Aside0 (impl_OrderOk.l1 kq l0 (l0.length:Int) a0 l0 (l0.length:Int) a0 (rd_L2 l0 a0) ((rd_L2 l0 a0).length:Int) a1=some r)∧Aside0 (kq≤s1)∧Drawn0 w w')
            case atStart=>exact⟨(0),zq6,H',⟨Nat.le_refl _⟩,zq8⟩
            case round=>
             clear H';obtain⟨a1,rfl,HA,b3,⟨m4,rfl⟩⟩:=hrel
             cases gk with
             |zero=>exact absurd HA.out (by simp [impl_OrderOk.l1])
             |succ k4=>
              have H:=HA.out;clear HA;simp only [impl_OrderOk.l1] at H
              by_cases i9:a1<((rd_L2 l0 a0).length:Int)
              ·rw [if_pos i9] at H;have q0:decide (a1<((rd_L2 l0 a0).length:Int))=true:=decide_eq_true i9;clear i9
               by_cases n3:0≤a1
               ·rw [if_pos n3] at H;have u6:decide (0≤a1)=true:=decide_eq_true n3;clear n3
                by_cases n4:a1<((rd_L2 l0 a0).length:Int)
                ·rw [if_pos n4] at H;have u7:decide (a1<((rd_L2 l0 a0).length:Int))=true:=decide_eq_true n4;clear n4;have k9:=zqm H;clear H;have m6:0≤(a1:Int):=zqo;have m9:a1<((rd_L2 l0 a0).length:Int):=zqo;obtain⟨u4,s8,t2⟩:=Kd.at_int i8.out a1 m6 m9
                 cases s8
                 replace m6:=eq_true m6;replace m9:=eq_true m9
                 go_upto_region 12 with (fail)
                 go_cut [49] (fun t9 wc=> ∃(kq:Nat) (g3:Bool),t9= .bool g3∧Aside0 (impl_OrderOk.j4 kq l0 (l0.length:Int) a0 a1 (rd (rd_L2 l0 a0) a1) l0 (l0.length:Int) a0 (rd_L2 l0 a0) ((rd_L2 l0 a0).length:Int) a1 g3=some r)∧Aside0 (kq≤k4)∧Drawn0 w wc)
                 case first=>
                  have H:=k9.out;clear k9
                  by_cases h5:(rd (rd_L2 l0 a0) a1)=0
                  ·rw [if_pos h5] at H;have g1:((rd (rd_L2 l0 a0) a1)==0)=true:=beq_iff_eq.mpr h5;have q1:((rd (rd_L2 l0 a0) a1) !=0)=false:=bne_eq_false_iff_eq.mpr h5;clear h5;(first|rw [g1]|(simp only [i64_w,i32_w];rw [g1])|skip);have H':=zqm H;clear H
                   go_wp2
                   go_meet
                   case rel=>exact⟨_,(false),zq6,H',⟨zq172⟩,zq8⟩
                  ·rw [if_neg h5] at H;have g1:((rd (rd_L2 l0 a0) a1)==0)=false:=beq_eq_false_iff_ne.mpr h5;have q1:((rd (rd_L2 l0 a0) a1) !=0)=true:=bne_iff_ne.mpr h5;(first|rw [g1]|(simp only [i64_w,i32_w];rw [g1])|skip);have H':=zqm H;clear H
                   go_wp2
                   go_meet
                   case rel=>exact⟨_,(((rd (rd_L2 l0 a0) a1) !=1)),zq6,H',⟨zq172⟩,zq8⟩
                 case rest=>
                  clear k9;obtain⟨kq,g3,rfl,HA,g5,⟨mc14,rfl⟩⟩:=hcut
                  cases kq with
                  |zero=>exact absurd HA.out (by simp [impl_OrderOk.j4])
                  |succ l9=>
                   have H:=HA.out;clear HA;simp only [impl_OrderOk.j4] at H
                   by_cases n5:g3=true
                   ·subst n5;rw [if_pos rfl] at H;obtain rfl:=Option.some.inj H
                    go_wp2
                    go_ret
                    exact⟨zq6,zq8⟩
                   ·replace n5:=Bool.eq_false_iff.mpr n5;subst n5;rw [if_neg (show¬(false=true) by decide)] at H
                    by_cases n6:0≤a1
                    ·rw [if_pos n6] at H;have u8:decide (0≤a1)=true:=decide_eq_true n6;clear n6
                     by_cases n7:a1<(l0.length:Int)
                     ·rw [if_pos n7] at H;have u9:decide (a1<(l0.length:Int))=true:=decide_eq_true n7;clear n7
                      by_cases e4:((rd_L2 l0 a1).length:Int)=(l0.length:Int)
                      ·rw [if_pos e4] at H;have q2:(((rd_L2 l0 a1).length:Int)==(l0.length:Int))=true:=beq_iff_eq.mpr e4;have q3:(((rd_L2 l0 a1).length:Int) !=(l0.length:Int))=false:=bne_eq_false_iff_eq.mpr e4;(have q4:((rd_L2 l0 a1).length==l0.length)=true:=by first|simpa using e4|(simp at e4 ⊢;omega));clear e4
                       by_cases h6:(rd (rd_L2 l0 a0) a1)=1
                       ·rw [if_pos h6] at H;have q5:((rd (rd_L2 l0 a0) a1)==1)=true:=beq_iff_eq.mpr h6;have q6:((rd (rd_L2 l0 a0) a1) !=1)=false:=bne_eq_false_iff_eq.mpr h6;clear h6
                        by_cases h7:a0=a1
                        ·rw [if_pos h7] at H;have q7:(a0==a1)=true:=beq_iff_eq.mpr h7;have q8:(a0 !=a1)=false:=bne_eq_false_iff_eq.mpr h7;clear h7;have H':=zqm H;clear H;have a9:0≤(a1:Int):=zqo;have b0:a1<(l0.length:Int):=zqo;obtain⟨c8,f9,g2,e3,d0,a6,a5⟩:=at_L2 c2.out a1 a9 b0;obtain rfl:e2=c8:=(by injection e3);have e6:=zqm a5;have e5:=zqm a6;clear a5 a6;replace a9:=eq_true a9;replace b0:=eq_true b0
                         go_wp2
                         go_roundg l9
                         (case measure=> exact zq99);case rel=>exact⟨(wrap64 (a1+1)),zq6,H',⟨zq99⟩,zq8⟩
                        ·rw [if_neg h7] at H;have q7:(a0==a1)=false:=beq_eq_false_iff_ne.mpr h7;have q8:(a0 !=a1)=true:=bne_iff_ne.mpr h7
                         by_cases n8:0≤a0
                         ·rw [if_pos n8] at H;have v0:decide (0≤a0)=true:=decide_eq_true n8;clear n8
                          by_cases n9:a0<((rd_L2 l0 a1).length:Int)
                          ·rw [if_pos n9] at H;have v1:decide (a0<((rd_L2 l0 a1).length:Int))=true:=decide_eq_true n9;clear n9
                           by_cases h8:(rd (rd_L2 l0 a1) a0)=1
                           ·rw [if_pos h8] at H;have q9:((rd (rd_L2 l0 a1) a0)==1)=true:=beq_iff_eq.mpr h8;have r0:((rd (rd_L2 l0 a1) a0) !=1)=false:=bne_eq_false_iff_eq.mpr h8;clear h8;obtain rfl:=Option.some.inj H;have a9:0≤(a1:Int):=zqo;have b0:a1<(l0.length:Int):=zqo;obtain⟨c8,f9,g2,e3,d0,a6,a5⟩:=at_L2 c2.out a1 a9 b0;obtain rfl:e2=c8:=(by injection e3);have e6:=zqm a5;have e5:=zqm a6;clear a5 a6;replace a9:=eq_true a9;replace b0:=eq_true b0;have f1:0≤(a1:Int):=zqo;have f5:a1<(l0.length:Int):=zqo;obtain⟨k0,p2,p6,l5,g8,d9,d7⟩:=at_L2 c2.out a1 f1 f5;obtain rfl:e2=k0:=(by injection l5);have g6:=zqm d7;have o8:=zqm d9;clear d7 d9;replace f1:=eq_true f1;replace f5:=eq_true f5;have ea_:=Option.some.inj (d0.symm.trans g8);injection ea_ with ea_ en_ ec_;subst ea_;subst ec_;clear en_;have f2:0≤(a0:Int):=zqo;have f6:a0<((rd_L2 l0 a1).length:Int):=zqo;obtain⟨p8,l6,p0⟩:=Kd.at_int g6.out a0 f2 f6
                            cases l6
                            replace f2:=eq_true f2;replace f6:=eq_true f6
                            go_wp2
                            go_ret
                            exact⟨zq6,zq8⟩
                           ·rw [if_neg h8] at H;have q9:((rd (rd_L2 l0 a1) a0)==1)=false:=beq_eq_false_iff_ne.mpr h8;have r0:((rd (rd_L2 l0 a1) a0) !=1)=true:=bne_iff_ne.mpr h8;have H':=zqm H;clear H;have a9:0≤(a1:Int):=zqo;have b0:a1<(l0.length:Int):=zqo;obtain⟨c8,f9,g2,e3,d0,a6,a5⟩:=at_L2 c2.out a1 a9 b0;obtain rfl:e2=c8:=(by injection e3);have e6:=zqm a5;have e5:=zqm a6;clear a5 a6;replace a9:=eq_true a9;replace b0:=eq_true b0;have f1:0≤(a1:Int):=zqo;have f5:a1<(l0.length:Int):=zqo;obtain⟨k0,p2,p6,l5,g8,d9,d7⟩:=at_L2 c2.out a1 f1 f5;obtain rfl:e2=k0:=(by injection l5);have g6:=zqm d7;have o8:=zqm d9;clear d7 d9;replace f1:=eq_true f1;replace f5:=eq_true f5;have ea_:=Option.some.inj (d0.symm.trans g8);injection ea_ with ea_ en_ ec_;subst ea_;subst ec_;clear en_;have f2:0≤(a0:Int):=zqo;have f6:a0<((rd_L2 l0 a1).length:Int):=zqo;obtain⟨p8,l6,p0⟩:=Kd.at_int g6.out a0 f2 f6
                            cases l6
                            replace f2:=eq_true f2;replace f6:=eq_true f6
                            go_wp2
                            go_roundg l9
                            (case measure=> exact zq99);case rel=>exact⟨(wrap64 (a1+1)),zq6,H',⟨zq99⟩,zq8⟩
                          ·rw [if_neg n9] at H;exact absurd H (by simp)
                         ·rw [if_neg n8] at H;exact absurd H (by simp)
                       ·rw [if_neg h6] at H;have q5:((rd (rd_L2 l0 a0) a1)==1)=false:=beq_eq_false_iff_ne.mpr h6;have q6:((rd (rd_L2 l0 a0) a1) !=1)=true:=bne_iff_ne.mpr h6;have H':=zqm H;clear H;have a9:0≤(a1:Int):=zqo;have b0:a1<(l0.length:Int):=zqo;obtain⟨c8,f9,g2,e3,d0,a6,a5⟩:=at_L2 c2.out a1 a9 b0;obtain rfl:e2=c8:=(by injection e3);have e6:=zqm a5;have e5:=zqm a6;clear a5 a6;replace a9:=eq_true a9;replace b0:=eq_true b0
                        go_wp2
                        go_roundg l9
                        (case measure=> exact zq99);case rel=>exact⟨(wrap64 (a1+1)),zq6,H',⟨zq99⟩,zq8⟩
                      ·rw [if_neg e4] at H;have q2:(((rd_L2 l0 a1).length:Int)==(l0.length:Int))=false:=beq_eq_false_iff_ne.mpr e4;have q3:(((rd_L2 l0 a1).length:Int) !=(l0.length:Int))=true:=bne_iff_ne.mpr e4;(have q4:((rd_L2 l0 a1).length==l0.length)=false:=by first|simpa using e4|(simp at e4 ⊢;omega));obtain rfl:=Option.some.inj H;have a9:0≤(a1:Int):=zqo;have b0:a1<(l0.length:Int):=zqo;obtain⟨c8,f9,g2,e3,d0,a6,a5⟩:=at_L2 c2.out a1 a9 b0;obtain rfl:e2=c8:=(by injection e3);have e6:=zqm a5;have e5:=zqm a6;clear a5 a6;replace a9:=eq_true a9;replace b0:=eq_true b0
                       go_wp2
                       go_ret
                       exact⟨zq6,zq8⟩
                     ·rw [if_neg n7] at H;exact absurd H (by simp)
                    ·rw [if_neg n6] at H;exact absurd H (by simp)
                ·rw [if_neg n4] at H;exact absurd H (by simp)
               ·rw [if_neg n3] at H;exact absurd H (by simp)
              ·rw [if_neg i9] at H;have q0:decide (a1<((rd_L2 l0 a0).length:Int))=false:=decide_eq_false i9;clear i9;have H':=zqm H;clear H
               go_wp2
               go_roundg k4
               (case measure=>have:=b1.out;have:=b2.out;have:=e7.out;have:=b3.out;omega);case rel=>exact⟨(wrap64 (a0+1)),zq6,H',⟨by have:=b1.out;have:=b2.out;have:=e7.out;have:=b3.out;omega⟩,zq8⟩
        ·rw [if_neg c7] at H;exact absurd H (by simp)
       ·rw [if_neg c6] at H;exact absurd H (by simp)
      ·rw [if_neg c5] at H;have s3:decide (a0<(l0.length:Int))=false:=decide_eq_false c5;clear c5;have H':=zqm H;clear H
       go_wp2
       go_loopg [79] k2 (fun kq u0 w'=> ∃(a2:Int),u0= .int .i64 a2∧Aside0 (impl_OrderOk.l2 kq l0 (l0.length:Int) (l0.length:Int) a2=some r)∧Aside0 (kq≤k2)∧Drawn0 w w')
       case atStart=>exact⟨(0),zq6,H',⟨Nat.le_refl _⟩,zq8⟩
       case round=>
        clear H';obtain⟨a2,rfl,HA,e8,⟨m3,rfl⟩⟩:=hrel
        cases gk with
        |zero=>exact absurd HA.out (by simp [impl_OrderOk.l2])
        |succ k3=>
         have H:=HA.out;clear HA;simp only [impl_OrderOk.l2] at H
         by_cases j1:a2<(l0.length:Int)
         ·rw [if_pos j1] at H;have r1:decide (a2<(l0.length:Int))=true:=decide_eq_true j1;clear j1;have H':=zqm H;clear H
          go_wp2
          go_loopg [83] k3 (fun kq u1 w'=> ∃(a3:Int),u1= .int .i64 a3∧Aside0 (impl_OrderOk.l3 kq l0 (l0.length:Int) a2 (l0.length:Int) a2 (l0.length:Int) a3=some r)∧Aside0 (kq≤k3)∧Drawn0 w w')
          case atStart=>exact⟨(0),zq6,H',⟨Nat.le_refl _⟩,zq8⟩
          case round=>
           clear H';obtain⟨a3,rfl,HA,b3,⟨m4,rfl⟩⟩:=hrel
           cases gk with
           |zero=>exact absurd HA.out (by simp [impl_OrderOk.l3])
           |succ k4=>
            have H:=HA.out;clear HA;simp only [impl_OrderOk.l3] at H
            by_cases j3:a3<(l0.length:Int)
            ·rw [if_pos j3] at H;have r2:decide (a3<(l0.length:Int))=true:=decide_eq_true j3;clear j3;have H':=zqm H;clear H
             go_wp2
             go_loopg [87] k4 (fun kq u2 w'=> ∃(a4:Int),u2= .int .i64 a4∧Aside0 (impl_OrderOk.l4 kq l0 (l0.length:Int) a2 a3 (l0.length:Int) a2 (l0.length:Int) a3 (l0.length:Int) a4=some r)∧Aside0 (kq≤k4)∧Drawn0 w w')
             case atStart=>exact⟨(0),zq6,H',⟨Nat.le_refl _⟩,zq8⟩
             case round=>
              clear H';obtain⟨a4,rfl,HA,h1,⟨m5,rfl⟩⟩:=hrel
              cases gk with
              |zero=>exact absurd HA.out (by simp [impl_OrderOk.l4])
              |succ k5=>
               have H:=HA.out;clear HA;simp only [impl_OrderOk.l4] at H
               by_cases j5:a4<(l0.length:Int)
               ·rw [if_pos j5] at H;have r3:decide (a4<(l0.length:Int))=true:=decide_eq_true j5;clear j5
                by_cases o0:0≤a2
                ·rw [if_pos o0] at H;have v2:decide (0≤a2)=true:=decide_eq_true o0;clear o0
                 by_cases o1:a2<(l0.length:Int)
                 ·rw [if_pos o1] at H;have v3:decide (a2<(l0.length:Int))=true:=decide_eq_true o1;clear o1
                  by_cases o2:0≤a3
                  ·rw [if_pos o2] at H;have v4:decide (0≤a3)=true:=decide_eq_true o2;clear o2
                   by_cases o3:a3<((rd_L2 l0 a2).length:Int)
                   ·rw [if_pos o3] at H;have v5:decide (a3<((rd_L2 l0 a2).length:Int))=true:=decide_eq_true o3;clear o3
                    by_cases h9:(rd (rd_L2 l0 a2) a3)=1
                    ·rw [if_pos h9] at H;have r4:((rd (rd_L2 l0 a2) a3)==1)=true:=beq_iff_eq.mpr h9;have r5:((rd (rd_L2 l0 a2) a3) !=1)=false:=bne_eq_false_iff_eq.mpr h9;clear h9
                     by_cases o4:a3<(l0.length:Int)
                     ·rw [if_pos o4] at H;have v6:decide (a3<(l0.length:Int))=true:=decide_eq_true o4;clear o4
                      by_cases o5:0≤a4
                      ·rw [if_pos o5] at H;have v7:decide (0≤a4)=true:=decide_eq_true o5;clear o5
                       by_cases o6:a4<((rd_L2 l0 a3).length:Int)
                       ·rw [if_pos o6] at H;have v8:decide (a4<((rd_L2 l0 a3).length:Int))=true:=decide_eq_true o6;clear o6
                        by_cases i0:(rd (rd_L2 l0 a3) a4)=1
                        ·rw [if_pos i0] at H;have r6:((rd (rd_L2 l0 a3) a4)==1)=true:=beq_iff_eq.mpr i0;have r7:((rd (rd_L2 l0 a3) a4) !=1)=false:=bne_eq_false_iff_eq.mpr i0;clear i0
                         by_cases o7:a4<((rd_L2 l0 a2).length:Int)
                         ·rw [if_pos o7] at H;have v9:decide (a4<((rd_L2 l0 a2).length:Int))=true:=decide_eq_true o7;clear o7
                          by_cases i1:(rd (rd_L2 l0 a2) a4)=1
                          ·rw [if_pos i1] at H;have r8:((rd (rd_L2 l0 a2) a4)==1)=true:=beq_iff_eq.mpr i1;have r9:((rd (rd_L2 l0 a2) a4) !=1)=false:=bne_eq_false_iff_eq.mpr i1;clear i1;have H':=zqm H;clear H;have b4:0≤(a2:Int):=zqo;have b6:a2<(l0.length:Int):=zqo;obtain⟨d5,h4,i3,e9,e1,a8,a7⟩:=at_L2 c2.out a2 b4 b6
                           cases e9
                           have c1:=zqm a7;have g4:=zqm a8;clear a7 a8;replace b4:=eq_true b4;replace b6:=eq_true b6;have b5:0≤(a3:Int):=zqo;have b7:a3<((rd_L2 l0 a2).length:Int):=zqo;obtain⟨k1,f0,g9⟩:=Kd.at_int c1.out a3 b5 b7
                           cases f0
                           replace b5:=eq_true b5;replace b7:=eq_true b7;have d1:0≤(a3:Int):=zqo;have d3:a3<(l0.length:Int):=zqo;obtain⟨g0,k7,k8,i5,j8,b9,b8⟩:=at_L2 c2.out a3 d1 d3;obtain rfl:d5=g0:=(by injection i5);have d6:=zqm b8;have i7:=zqm b9;clear b8 b9;replace d1:=eq_true d1;replace d3:=eq_true d3;have d2:0≤(a4:Int):=zqo;have d4:a4<((rd_L2 l0 a3).length:Int):=zqo;obtain⟨n0,i6,j9⟩:=Kd.at_int d6.out a4 d2 d4
                           cases i6
                           replace d2:=eq_true d2;replace d4:=eq_true d4;have f3:0≤(a2:Int):=zqo;have f7:a2<(l0.length:Int):=zqo;obtain⟨k6,p3,p7,l7,h0,e0,d8⟩:=at_L2 c2.out a2 f3 f7;obtain rfl:d5=k6:=(by injection l7);have g7:=zqm d8;have o9:=zqm e0;clear d8 e0;replace f3:=eq_true f3;replace f7:=eq_true f7;have ea_:=Option.some.inj (e1.symm.trans h0);injection ea_ with ea_ en_ ec_;subst ea_;subst ec_;clear en_;have f4:0≤(a4:Int):=zqo;have f8:a4<((rd_L2 l0 a2).length:Int):=zqo;obtain⟨p9,l8,p1⟩:=Kd.at_int g7.out a4 f4 f8
                           cases l8
                           replace f4:=eq_true f4;replace f8:=eq_true f8
                           go_wp2
                           go_roundg k5
                           (case measure=> exact zq71);case rel=>exact⟨(wrap64 (a4+1)),zq6,H',⟨zq71⟩,zq8⟩
                          ·rw [if_neg i1] at H;have r8:((rd (rd_L2 l0 a2) a4)==1)=false:=beq_eq_false_iff_ne.mpr i1;have r9:((rd (rd_L2 l0 a2) a4) !=1)=true:=bne_iff_ne.mpr i1;obtain rfl:=Option.some.inj H;have b4:0≤(a2:Int):=zqo;have b6:a2<(l0.length:Int):=zqo;obtain⟨d5,h4,i3,e9,e1,a8,a7⟩:=at_L2 c2.out a2 b4 b6
                           cases e9
                           have c1:=zqm a7;have g4:=zqm a8;clear a7 a8;replace b4:=eq_true b4;replace b6:=eq_true b6;have b5:0≤(a3:Int):=zqo;have b7:a3<((rd_L2 l0 a2).length:Int):=zqo;obtain⟨k1,f0,g9⟩:=Kd.at_int c1.out a3 b5 b7
                           cases f0
                           replace b5:=eq_true b5;replace b7:=eq_true b7;have d1:0≤(a3:Int):=zqo;have d3:a3<(l0.length:Int):=zqo;obtain⟨g0,k7,k8,i5,j8,b9,b8⟩:=at_L2 c2.out a3 d1 d3;obtain rfl:d5=g0:=(by injection i5);have d6:=zqm b8;have i7:=zqm b9;clear b8 b9;replace d1:=eq_true d1;replace d3:=eq_true d3;have d2:0≤(a4:Int):=zqo;have d4:a4<((rd_L2 l0 a3).length:Int):=zqo;obtain⟨n0,i6,j9⟩:=Kd.at_int d6.out a4 d2 d4
                           cases i6
                           replace d2:=eq_true d2;replace d4:=eq_true d4;have f3:0≤(a2:Int):=zqo;have f7:a2<(l0.length:Int):=zqo;obtain⟨k6,p3,p7,l7,h0,e0,d8⟩:=at_L2 c2.out a2 f3 f7;obtain rfl:d5=k6:=(by injection l7);have g7:=zqm d8;have o9:=zqm e0;clear d8 e0;replace f3:=eq_true f3;replace f7:=eq_true f7;have ea_:=Option.some.inj (e1.symm.trans h0);injection ea_ with ea_ en_ ec_;subst ea_;subst ec_;clear en_;have f4:0≤(a4:Int):=zqo;have f8:a4<((rd_L2 l0 a2).length:Int):=zqo;obtain⟨p9,l8,p1⟩:=Kd.at_int g7.out a4 f4 f8
                           cases l8
                           replace f4:=eq_true f4;replace f8:=eq_true f8
                           go_wp2
                           go_ret
                           exact⟨zq6,zq8⟩
                         ·rw [if_neg o7] at H;exact absurd H (by simp)
                        ·rw [if_neg i0] at H;have r6:((rd (rd_L2 l0 a3) a4)==1)=false:=beq_eq_false_iff_ne.mpr i0;have r7:((rd (rd_L2 l0 a3) a4) !=1)=true:=bne_iff_ne.mpr i0;have H':=zqm H;clear H;have b4:0≤(a2:Int):=zqo;have b6:a2<(l0.length:Int):=zqo;obtain⟨d5,h4,i3,e9,e1,a8,a7⟩:=at_L2 c2.out a2 b4 b6
                         cases e9
                         have c1:=zqm a7;have g4:=zqm a8;clear a7 a8;replace b4:=eq_true b4;replace b6:=eq_true b6;have b5:0≤(a3:Int):=zqo;have b7:a3<((rd_L2 l0 a2).length:Int):=zqo;obtain⟨k1,f0,g9⟩:=Kd.at_int c1.out a3 b5 b7
                         cases f0
                         replace b5:=eq_true b5;replace b7:=eq_true b7;have d1:0≤(a3:Int):=zqo;have d3:a3<(l0.length:Int):=zqo;obtain⟨g0,k7,k8,i5,j8,b9,b8⟩:=at_L2 c2.out a3 d1 d3;obtain rfl:d5=g0:=(by injection i5);have d6:=zqm b8;have i7:=zqm b9;clear b8 b9;replace d1:=eq_true d1;replace d3:=eq_true d3;have d2:0≤(a4:Int):=zqo;have d4:a4<((rd_L2 l0 a3).length:Int):=zqo;obtain⟨n0,i6,j9⟩:=Kd.at_int d6.out a4 d2 d4
                         cases i6
                         replace d2:=eq_true d2;replace d4:=eq_true d4
                         go_wp2
                         go_roundg k5
                         (case measure=> exact zq71);case rel=>exact⟨(wrap64 (a4+1)),zq6,H',⟨zq71⟩,zq8⟩
                       ·rw [if_neg o6] at H;exact absurd H (by simp)
                      ·rw [if_neg o5] at H;exact absurd H (by simp)
                     ·rw [if_neg o4] at H;exact absurd H (by simp)
                    ·rw [if_neg h9] at H;have r4:((rd (rd_L2 l0 a2) a3)==1)=false:=beq_eq_false_iff_ne.mpr h9;have r5:((rd (rd_L2 l0 a2) a3) !=1)=true:=bne_iff_ne.mpr h9;have H':=zqm H;clear H;have b4:0≤(a2:Int):=zqo;have b6:a2<(l0.length:Int):=zqo;obtain⟨d5,h4,i3,e9,e1,a8,a7⟩:=at_L2 c2.out a2 b4 b6
                     cases e9
                     have c1:=zqm a7;have g4:=zqm a8;clear a7 a8;replace b4:=eq_true b4;replace b6:=eq_true b6;have b5:0≤(a3:Int):=zqo;have b7:a3<((rd_L2 l0 a2).length:Int):=zqo;obtain⟨k1,f0,g9⟩:=Kd.at_int c1.out a3 b5 b7
                     cases f0
                     replace b5:=eq_true b5;replace b7:=eq_true b7
                     go_wp2
                     go_roundg k5
                     (case measure=> exact zq71);case rel=>exact⟨(wrap64 (a4+1)),zq6,H',⟨zq71⟩,zq8⟩
                   ·rw [if_neg o3] at H;exact absurd H (by simp)
                  ·rw [if_neg o2] at H;exact absurd H (by simp)
                 ·rw [if_neg o1] at H;exact absurd H (by simp)
                ·rw [if_neg o0] at H;exact absurd H (by simp)
               ·rw [if_neg j5] at H;have r3:decide (a4<(l0.length:Int))=false:=decide_eq_false j5;clear j5;have H':=zqm H;clear H
                go_wp2
                go_roundg k5
                (case measure=> exact zq71);case rel=>exact⟨(wrap64 (a3+1)),zq6,H',⟨zq71⟩,zq8⟩
            ·rw [if_neg j3] at H;have r2:decide (a3<(l0.length:Int))=false:=decide_eq_false j3;clear j3;have H':=zqm H;clear H
             go_wp2
             go_roundg k4
             (case measure=>have:=b1.out;have:=b2.out;have:=e8.out;have:=b3.out;omega);case rel=>exact⟨(wrap64 (a2+1)),zq6,H',⟨by have:=b1.out;have:=b2.out;have:=e8.out;have:=b3.out;omega⟩,zq8⟩
         ·rw [if_neg j1] at H;have r1:decide (a2<(l0.length:Int))=false:=decide_eq_false j1;clear j1;obtain rfl:=Option.some.inj H
          go_wp2
          go_ret
          exact⟨zq6,zq8⟩
end
section
attribute [local go_sem] max2_int min2_int max_two min_two max_three min_three max_four min_four
mutual
def impl_LeastOf.l0 : Nat → List (List Int) → Int → Int → Option (Int × Bool)
 | 0, _, _, _ => none
 | k + 1, x12, x13, x14 => if x14 < x13 then (if 0 ≤ x14 then (if x14 < (x12.length : Int) then (impl_LeastOf.l1 k x14 true x12 x13 x14 (rd_L2 x12 x14) ((rd_L2 x12 x14).length : Int) 0) else (none)) else (none)) else (some ((-1), false))
def impl_LeastOf.l1 : Nat → Int → Bool → List (List Int) → Int → Int → List Int → Int → Int → Option (Int × Bool)
 | 0, _, _, _, _, _, _, _, _ => none
 | k + 1, x4, x6, x12, x13, x14, x19, x20, x21 => if x21 < x20 then (if 0 ≤ x21 then (if x21 < (x19.length : Int) then (if x6 = true then (impl_LeastOf.l1 k x4 ((rd x19 x21) == 1) x12 x13 x14 x19 x20 (wrap64 (x21 + 1))) else (impl_LeastOf.l1 k x4 false x12 x13 x14 x19 x20 (wrap64 (x21 + 1)))) else (none)) else (none)) else (if x6 = true then (some (x4, true)) else (impl_LeastOf.l0 k x12 x13 (wrap64 (x14 + 1))))
end
def impl_LeastOf.f (k : Nat) (l0 : List (List Int)) : Option (Int × Bool) := (impl_OrderOk.f k l0).bind fun t409 => (if t409 = true then (impl_LeastOf.l0 k l0 (l0.length : Int) 0) else (some ((-1), false)))
set_option maxHeartbeats 8000000 in
set_option maxRecDepth 100000 in
theorem impl_LeastOf.calls (k : Nat) (A0 : Option Addr) (c0 : Nat) (l0 : List (List Int)) (r1 : Int) (r2 : Bool) (w : World) (hr0 : Kd.C (Kd.slice 3 (Kd.int .i64)) w A0 l0.length l0) (hc0 : l0.length ≤ c0) (h : impl_LeastOf.f k l0 = some (r1, r2)) :
  Calls Try.prog 85 #[.slice A0 l0.length c0] w fun e w' => e = .returned (.tuple #[.int .i64 r1, .bool r2]) ∧ Drawn0 w w' := by
 have b7:=zqm hr0;have c1:=zqm hc0;clear hr0 hc0;have H:((impl_OrderOk.f k l0).bind fun b0=>(if b0=true then(impl_LeastOf.l0 k l0 (l0.length:Int) 0) else(some ((-1),false))))=some (r1,r2):=h;clear h;replace H:=Option.bind_eq_some_iff.mp H;obtain⟨b0,b9,H⟩:=H;replace H:(if b0=true then(impl_LeastOf.l0 k l0 (l0.length:Int) 0) else(some ((-1),false)))=some (r1,r2):=H;have A2:=zqm b9;clear b9
 by_cases c3:b0=true
 ·subst c3;(have H1:(impl_LeastOf.l0 k l0 (l0.length:Int) 0)=some (r1,r2):=by rw [if_pos rfl] at H;exact H);clear H;have H:=H1;clear H1;have H':=zqm H;clear H
  go_enter Try.func85,Try.ntmps85
  go_wp2_with (first|((with_reducible refine gate_callee (f:=81) rfl ?_);refine goesL_ (some 10) rfl rfl Try.func81 zqk rfl #[.slice A0 l0.length c0] rfl zq5 ?_;(with_reducible refine(impl_OrderOk.calls k _ _ l0 true _ ?side1 ?side2 A2.out).mono ?_);(case side1=> exact zq132);(case side2=>exact c1.out);rintro e w' ⟨rfl,⟨nd,rfl⟩⟩;refine⟨_,rfl,?_⟩))
  go_loopg [14] k (fun kq d6 w'=> ∃(a0:Int),d6= .int .i64 a0∧Aside0 (impl_LeastOf.l0 kq l0 (l0.length:Int) a0=some (r1,r2))∧Aside0 (kq≤k)∧Drawn0 w w')
  case atStart=>exact⟨(0),zq6,H',⟨Nat.le_refl _⟩,zq8⟩
  case round=>
   clear H';obtain⟨a0,rfl,HA,a5,⟨m1,rfl⟩⟩:=hrel
   cases gk with
   |zero=>exact absurd HA.out (by simp [impl_LeastOf.l0])
   |succ k1=>
    have H:=HA.out;clear HA;simp only [impl_LeastOf.l0] at H
    by_cases c4:a0<(l0.length:Int)
    ·rw [if_pos c4] at H;have c2:decide (a0<(l0.length:Int))=true:=decide_eq_true c4;clear c4
     by_cases c5:0≤a0
     ·rw [if_pos c5] at H;have d9:decide (0≤a0)=true:=decide_eq_true c5;clear c5
      by_cases c6:a0<(l0.length:Int)
      ·rw [if_pos c6] at H;have e0:decide (a0<(l0.length:Int))=true:=decide_eq_true c6;clear c6;have H':=zqm H;clear H;have b2:0≤(a0:Int):=zqo;have b3:a0<(l0.length:Int):=zqo;obtain⟨d8,d4,d5,d1,d3,a9,a8⟩:=at_L2 b7.out a0 b2 b3
       cases d1
       have a7:=zqm a8;have d2:=zqm a9;clear a8 a9;replace b2:=eq_true b2;replace b3:=eq_true b3
       go_wp2
       go_loopg [6,21] k1 (fun kq v6 d7 w'=> ∃(a4:Bool) (a1:Int),v6= .bool a4∧d7= .int .i64 a1∧Aside0 (impl_LeastOf.l1 kq a0 a4 l0 (l0.length:Int) a0 (rd_L2 l0 a0) ((rd_L2 l0 a0).length:Int) a1=some (r1,r2))∧Aside0 (kq≤k1)∧Drawn0 w w')
       case atStart=>exact⟨(true),(0),zq6,zq6,H',⟨Nat.le_refl _⟩,zq8⟩
       case round=>
        clear H';obtain⟨a4,a1,rfl,rfl,HA,a6,⟨m2,rfl⟩⟩:=hrel
        cases gk with
        |zero=>exact absurd HA.out (by simp [impl_LeastOf.l1])
        |succ k2=>
         have H:=HA.out;clear HA;simp only [impl_LeastOf.l1] at H
         by_cases c7:a1<((rd_L2 l0 a0).length:Int)
         ·rw [if_pos c7] at H;have d0:decide (a1<((rd_L2 l0 a0).length:Int))=true:=decide_eq_true c7;clear c7
          by_cases c8:0≤a1
          ·rw [if_pos c8] at H;have e1:decide (0≤a1)=true:=decide_eq_true c8;clear c8
           by_cases c9:a1<((rd_L2 l0 a0).length:Int)
           ·rw [if_pos c9] at H;have e2:decide (a1<((rd_L2 l0 a0).length:Int))=true:=decide_eq_true c9;clear c9
            by_cases b4:a4=true
            ·subst b4;(have H1:(impl_LeastOf.l1 k2 a0 ((rd (rd_L2 l0 a0) a1)==1) l0 (l0.length:Int) a0 (rd_L2 l0 a0) ((rd_L2 l0 a0).length:Int) (wrap64 (a1+1)))=some (r1,r2):=by rw [if_pos rfl] at H;exact H);clear H;have H:=H1;clear H1;have H':=zqm H;clear H;have a2:0≤(a1:Int):=zqo;have a3:a1<((rd_L2 l0 a0).length:Int):=zqo;obtain⟨b8,b1,b6⟩:=Kd.at_int a7.out a1 a2 a3
             cases b1
             replace a2:=eq_true a2;replace a3:=eq_true a3
             go_wp2
             go_roundg k2
             (case measure=> exact zq159);case rel=>exact⟨(((rd (rd_L2 l0 a0) a1)==1)),(wrap64 (a1+1)),zq6,zq6,H',⟨zq159⟩,zq8⟩
            ·replace b4:=Bool.eq_false_iff.mpr b4;subst b4;(have H1:(impl_LeastOf.l1 k2 a0 false l0 (l0.length:Int) a0 (rd_L2 l0 a0) ((rd_L2 l0 a0).length:Int) (wrap64 (a1+1)))=some (r1,r2):=by rw [if_neg (show¬(false=true) by decide)] at H;exact H);clear H;have H:=H1;clear H1;have H':=zqm H;clear H;have a2:0≤(a1:Int):=zqo;have a3:a1<((rd_L2 l0 a0).length:Int):=zqo;obtain⟨b8,b1,b6⟩:=Kd.at_int a7.out a1 a2 a3
             cases b1
             replace a2:=eq_true a2;replace a3:=eq_true a3
             go_wp2
             go_roundg k2
             (case measure=> exact zq159);case rel=>exact⟨(false),(wrap64 (a1+1)),zq6,zq6,H',⟨zq159⟩,zq8⟩
           ·rw [if_neg c9] at H;exact absurd H (by simp)
          ·rw [if_neg c8] at H;exact absurd H (by simp)
         ·rw [if_neg c7] at H;have d0:decide (a1<((rd_L2 l0 a0).length:Int))=false:=decide_eq_false c7;clear c7
          by_cases b5:a4=true
          ·subst b5;(have H1:(some (a0,true))=some (r1,r2):=by rw [if_pos rfl] at H;exact H);clear H;have H:=H1;clear H1;simp only [Option.some.injEq,Prod.mk.injEq] at H;obtain⟨rfl,rfl⟩:=H
           go_wp2
           go_ret2
           exact⟨zq6,zq8⟩
          ·replace b5:=Bool.eq_false_iff.mpr b5;subst b5;(have H1:(impl_LeastOf.l0 k2 l0 (l0.length:Int) (wrap64 (a0+1)))=some (r1,r2):=by rw [if_neg (show¬(false=true) by decide)] at H;exact H);clear H;have H:=H1;clear H1;have H':=zqm H;clear H
           go_wp2
           go_roundg k2
           (case measure=> exact zq159);case rel=>exact⟨(wrap64 (a0+1)),zq6,H',⟨zq159⟩,zq8⟩
      ·rw [if_neg c6] at H;exact absurd H (by simp)
     ·rw [if_neg c5] at H;exact absurd H (by simp)
    ·rw [if_neg c4] at H;have c2:decide (a0<(l0.length:Int))=false:=decide_eq_false c4;clear c4;simp only [Option.some.injEq,Prod.mk.injEq] at H;obtain⟨rfl,rfl⟩:=H
     go_wp2
     go_ret2
     exact⟨zq6,zq8⟩
 ·replace c3:=Bool.eq_false_iff.mpr c3;subst c3;(have H1:(some ((-1),false))=some (r1,r2):=by rw [if_neg (show¬(false=true) by decide)] at H;exact H);clear H;have H:=H1;clear H1;simp only [Option.some.injEq,Prod.mk.injEq] at H;obtain⟨rfl,rfl⟩:=H
  go_enter Try.func85,Try.ntmps85
  go_wp2_with (first|((with_reducible refine gate_callee (f:=81) rfl ?_);refine goesL_ (some 10) rfl rfl Try.func81 zqk rfl #[.slice A0 l0.length c0] rfl zq5 ?_;(with_reducible refine(impl_OrderOk.calls k _ _ l0 false _ ?side1 ?side2 A2.out).mono ?_);(case side1=> exact zq132);(case side2=>exact c1.out);rintro e w' ⟨rfl,⟨nd,rfl⟩⟩;refine⟨_,rfl,?_⟩))
  go_ret2
  exact⟨zq6,zq8⟩
end
section
attribute [local go_sem] max2_int min2_int max_two min_two max_three min_three max_four min_four
mutual
def impl_AtomsOf.l0 : Nat → List (List Int) → Int → List Int → Int → Int → Option (List Int)
 | 0, _, _, _, _, _ => none
 | k + 1, x0, x3, x5, x18, x19 => if x19 < x18 then (impl_AtomsOf.l1 k x0 x3 x5 x19 0 x18 x19 (x0.length : Int) 0) else (some x5)
def impl_AtomsOf.l1 : Nat → List (List Int) → Int → List Int → Int → Int → Int → Int → Int → Int → Option (List Int)
 | 0, _, _, _, _, _, _, _, _, _ => none
 | k + 1, x0, x3, x5, x6, x7, x18, x19, x23, x24 => if x24 < x23 then (if 0 ≤ x24 then (if x24 < (x0.length : Int) then (if 0 ≤ x6 then (if x6 < ((rd_L2 x0 x24).length : Int) then (impl_AtomsOf.l1 k x0 x3 x5 x6 (wrap64 (x7 + (rd (rd_L2 x0 x24) x6))) x18 x19 x23 (wrap64 (x24 + 1))) else (none)) else (none)) else (none)) else (none)) else (if x6 = x3 then (impl_AtomsOf.l0 k x0 x3 x5 x18 (wrap64 (x19 + 1))) else (if x7 = 2 then (if x5.length < 17592186044416 then (impl_AtomsOf.l0 k x0 x3 (x5 ++ [x6]) x18 (wrap64 (x19 + 1))) else (none)) else (impl_AtomsOf.l0 k x0 x3 x5 x18 (wrap64 (x19 + 1)))))
end
def impl_AtomsOf.f (k : Nat) (l0 : List (List Int)) : Option (List Int) := (impl_LeastOf.f k l0).bind fun bt532 => (if bt532.2 = true then (impl_AtomsOf.l0 k l0 bt532.1 (([] : List Int)) (l0.length : Int) 0) else (some ([] : List Int)))
set_option maxHeartbeats 8000000 in
set_option maxRecDepth 100000 in
theorem impl_AtomsOf.calls (k : Nat) (A0 : Option Addr) (c0 : Nat) (l0 : List (List Int)) (r : List Int) (w : World) (hr0 : Kd.C (Kd.slice 3 (Kd.int .i64)) w A0 l0.length l0) (hc0 : l0.length ≤ c0) (h : impl_AtomsOf.f k l0 = some r) :
  Calls Try.prog 21 #[.slice A0 l0.length c0] w fun e w' => ∃ v0_ : Value, e = .returned (v0_) ∧ Kd.R (Kd.int .i64) 3 w' w.heap.size (fun _ => True) v0_ r ∧ Below w.heap.size w w' := by
 have d2:=zqm hr0;have e3:=zqm hc0;clear hr0 hc0;have HB:=zqm (Below.refl w.heap.size w);have H:((impl_LeastOf.f k l0).bind fun c2=>(if c2.2=true then(impl_AtomsOf.l0 k l0 c2.1 (([]:List Int)) (l0.length:Int) 0) else(some ([]:List Int))))=some r:=h;clear h;replace H:=Option.bind_eq_some_iff.mp H;obtain⟨⟨a2,e8⟩,e2,H⟩:=H;(try dsimp only at H);have A2:=zqm e2;clear e2
 by_cases c3:e8=true
 ·subst c3;rw [if_pos rfl] at H;obtain⟨d3,b3⟩: ∃y_:List Int,y_=(([]:List Int)):=⟨_,rfl⟩;replace H:(impl_AtomsOf.l0 k l0 a2 d3 (l0.length:Int) 0)=some r:=zqy b3 H;have c1:=zqm b3;clear b3;have H':=zqm H;clear H
  go_enter Try.func21,Try.ntmps21
  go_wp2_with (first|((with_reducible refine gate_callee (f:=85) rfl ?_);refine goesL_ (some 11) rfl rfl Try.func85 zqk rfl #[.slice A0 l0.length c0] rfl zq5 ?_;(with_reducible refine(impl_LeastOf.calls k _ _ l0 a2 true _ ?side1 ?side2 A2.out).mono ?_);(case side1=> exact zq133);(case side2=>exact e3.out);rintro e w' ⟨rfl,⟨nd,rfl⟩⟩;refine⟨_,rfl,?_⟩)|((with_reducible refine gate_dst (N:=16) rfl ?_);refine Kd.R_lit (Kd.int .i64) _ 3 ?hg (N:=16) ?hd (xs:=([]:List Int)) (inner:= []) (ok:=fun _=>True) (okp:=fun _=>True) ?hr ?hp (fun _ hk=>hk) trivial (Below.refl _ _) (Nat.le_refl _) (by simp) ?_;(case hd=>rfl);(case hg=>rfl);(case hr=> exact zq9);(case hp=>exact(Reps.none _ _));intro g0 w4 b5 hb hg_ hnew_;clear hg_ hnew_;(first|rw [← c1.out] at b5|(simp only [Int.reduceToNat] at b5;rw [← c1.out] at b5));have d5:=zqm (Kd.R_lower b5 (below_size zq2));replace HB:=zqm (below_step zq2 hb);clear hb b5))
  go_loopg [5,19] k (fun kq v5 f2 w'=> ∃(a3:List Int) (a0:Int),f2= .int .i64 a0∧Aside0 (impl_AtomsOf.l0 kq l0 a2 a3 (l0.length:Int) a0=some r)∧Aside0 (kq≤k)∧Aside0 (Kd.R (Kd.int .i64) 3 w' w.heap.size (fun _=>True) v5 a3)∧Aside0 (Below w.heap.size w w'))
  case atStart=>exact⟨(d3),(0),zq6,H',⟨Nat.le_refl _⟩,⟨zqfR d5.out⟩,⟨zq2⟩⟩
  case round=>
   clear H';obtain⟨a3,a0,rfl,HA,a7,HO_5,HB⟩:=hrel
   cases gk with
   |zero=>exact absurd HA.out (by simp [impl_AtomsOf.l0])
   |succ k1=>
    have H:=HA.out;clear HA;simp only [impl_AtomsOf.l0] at H
    by_cases c6:a0<(l0.length:Int)
    ·rw [if_pos c6] at H;have e4:decide (a0<(l0.length:Int))=true:=decide_eq_true c6;clear c6;have H':=zqm H;clear H
     go_wp2
     go_loopg [7,24] k1 (fun kq v7 f3 w'=> ∃(a4:Int) (a1:Int),v7= .int .i64 a4∧f3= .int .i64 a1∧Aside0 (impl_AtomsOf.l1 kq l0 a2 a3 a0 a4 (l0.length:Int) a0 (l0.length:Int) a1=some r)∧Aside0 (kq≤k1)∧Aside0 (Kd.R (Kd.int .i64) 3 w' w.heap.size (fun _=>True) u5 a3)∧Aside0 (Below w.heap.size w w'))
     case atStart=>exact⟨(0),(0),zq6,zq6,H',⟨Nat.le_refl _⟩,⟨zqfR HO_5.out⟩,⟨zq2⟩⟩
     case round=>
      clear H';obtain⟨a4,a1,rfl,rfl,HA,a8,HO_5,HB⟩:=hrel
      cases gk with
      |zero=>exact absurd HA.out (by simp [impl_AtomsOf.l1])
      |succ k2=>
       have H:=HA.out;clear HA;simp only [impl_AtomsOf.l1] at H
       by_cases c7:a1<(l0.length:Int)
       ·rw [if_pos c7] at H;have e5:decide (a1<(l0.length:Int))=true:=decide_eq_true c7;clear c7
        by_cases c8:0≤a1
        ·rw [if_pos c8] at H;have f8:decide (0≤a1)=true:=decide_eq_true c8;clear c8
         by_cases c9:a1<(l0.length:Int)
         ·rw [if_pos c9] at H;have f9:decide (a1<(l0.length:Int))=true:=decide_eq_true c9;clear c9
          by_cases c4:0≤a0
          ·rw [if_pos c4] at H;have f6:decide (0≤a0)=true:=decide_eq_true c4;clear c4
           by_cases c5:a0<((rd_L2 l0 a1).length:Int)
           ·rw [if_pos c5] at H;have f7:decide (a0<((rd_L2 l0 a1).length:Int))=true:=decide_eq_true c5;clear c5;have H':=zqm H;clear H;have b6:0≤(a1:Int):=zqo;have b8:a1<(l0.length:Int):=zqo;obtain⟨f4,f0,f1,e6,a5,b2,b1⟩:=at_L2 d2.out a1 b6 b8
            cases e6
            replace a5:=(HB.out.cell (World.block_lt_of_cell? w _ a5)).trans a5;have d1:=zqm b1;have e9:=zqm b2;clear b1 b2;replace b6:=eq_true b6;replace b8:=eq_true b8;have b7:0≤(a0:Int):=zqo;have b9:a0<((rd_L2 l0 a1).length:Int):=zqo;obtain⟨f5,e7,a6⟩:=Kd.at_int d1.out a0 b7 b9
            cases e7
            replace a6:=(HB.out.cell (World.block_lt_of_cell? w _ a6)).trans a6;replace b7:=eq_true b7;replace b9:=eq_true b9
            go_wp2
            go_roundg k2
            (case measure=> exact zq145);case rel=>exact⟨(wrap64 (a4+(rd (rd_L2 l0 a1) a0))),(wrap64 (a1+1)),zq6,zq6,H',⟨zq145⟩,⟨zqfR HO_5.out⟩,⟨zq2⟩⟩
           ·rw [if_neg c5] at H;exact absurd H (by simp)
          ·rw [if_neg c4] at H;exact absurd H (by simp)
         ·rw [if_neg c9] at H;exact absurd H (by simp)
        ·rw [if_neg c8] at H;exact absurd H (by simp)
       ·rw [if_neg c7] at H;have e5:decide (a1<(l0.length:Int))=false:=decide_eq_false c7;clear c7
        by_cases a9:a0=a2
        ·rw [if_pos a9] at H;have d8:(a0==a2)=true:=beq_iff_eq.mpr a9;have d9:(a0 !=a2)=false:=bne_eq_false_iff_eq.mpr a9;clear a9;have H':=zqm H;clear H
         go_wp2
         go_roundg k2
         (case measure=> exact zq145);case rel=>exact⟨(a3),(wrap64 (a0+1)),zq6,H',⟨zq145⟩,⟨zqfR HO_5.out⟩,⟨zq2⟩⟩
        ·rw [if_neg a9] at H;have d8:(a0==a2)=false:=beq_eq_false_iff_ne.mpr a9;have d9:(a0 !=a2)=true:=bne_iff_ne.mpr a9
         by_cases b0:a4=2
         ·rw [if_pos b0] at H;have e0:(a4==2)=true:=beq_iff_eq.mpr b0;have e1:(a4 !=2)=false:=bne_eq_false_iff_eq.mpr b0;clear b0
          by_cases d0:a3.length<17592186044416
          ·rw [if_pos d0] at H;have LMc14:=zqm d0;clear d0;obtain⟨d4,b4⟩: ∃y_:List Int,y_=(a3 ++ [a0]):=⟨_,rfl⟩;replace H:(impl_AtomsOf.l0 k2 l0 a2 d4 (l0.length:Int) (wrap64 (a0+1)))=some r:=zqy b4 H;have d7:=zqm b4;clear b4;have H':=zqm H;clear H
           go_wp2_with (first|((with_reducible refine gate_builtin (b:= .append) (xs:= #[.tmp 44,.tmp 46]) rfl ?_);at_builtin;refine Kd.R_append (Kd.int .i64) (w0:=w) w.heap.size rfl (.tmp 44) (.tmp 46) 24 3 (.int .i64 0) 8 rfl Try.underlying24 info3 rfl (by decide) (by omega) u5 a3 a0 [.int .i64 a0] (fun _=>True) (fun _=>False) rfl rfl ?aP (fun _ hk=>hk.elim) ?aF ?aO ?aB ?aS ?aL ?_;(case aP=>exact rfl);(case aB=> exact zq78);(case aF=>exact(fun _ _=>trivial));(case aO=>exact(zqfR HO_5.out));(case aS=> exact zq70);(case aL=>have:=LMc14.out;omega);intro g1 g2 ho hb hg hat;rw [← d7.out] at ho;replace HB:=zqm (hb);have d6:=zqm (ho);clear HO_5;clear ho hb hg hat))
           go_roundg k2
           (case measure=> exact zq145);case rel=>exact⟨(d4),(wrap64 (a0+1)),zq6,H',⟨zq145⟩,⟨zqfR d6.out⟩,⟨zq2⟩⟩
          ·rw [if_neg d0] at H;exact absurd H (by simp)
         ·rw [if_neg b0] at H;have e0:(a4==2)=false:=beq_eq_false_iff_ne.mpr b0;have e1:(a4 !=2)=true:=bne_iff_ne.mpr b0;have H':=zqm H;clear H
          go_wp2
          go_roundg k2
          (case measure=> exact zq145);case rel=>exact⟨(a3),(wrap64 (a0+1)),zq6,H',⟨zq145⟩,⟨zqfR HO_5.out⟩,⟨zq2⟩⟩
    ·rw [if_neg c6] at H;have e4:decide (a0<(l0.length:Int))=false:=decide_eq_false c6;clear c6;obtain rfl:=Option.some.inj H
     go_wp2
     go_ret
     exact⟨_,zq13,zqfR HO_5.out,zq2⟩
 ·replace c3:=Bool.eq_false_iff.mpr c3;subst c3;rw [if_neg (show¬(false=true) by decide)] at H;obtain rfl:=Option.some.inj H
  go_enter Try.func21,Try.ntmps21
  go_wp2_with (first|((with_reducible refine gate_callee (f:=85) rfl ?_);refine goesL_ (some 11) rfl rfl Try.func85 zqk rfl #[.slice A0 l0.length c0] rfl zq5 ?_;(with_reducible refine(impl_LeastOf.calls k _ _ l0 a2 false _ ?side1 ?side2 A2.out).mono ?_);(case side1=> exact zq133);(case side2=>exact e3.out);rintro e w' ⟨rfl,⟨nd,rfl⟩⟩;refine⟨_,rfl,?_⟩))
  go_ret
  exact⟨_,zq13,zq62,zq2⟩
end
section
attribute [local go_sem] max2_int min2_int max_two min_two max_three min_three max_four min_four
def laws_sameInts.l0 : Nat → List Int → List Int → Int → Option (Bool)
 | 0, _, _, _ => none
 | k + 1, x0, x1, x5 => if x5 < (x0.length : Int) then (if 0 ≤ x5 then (if x5 < (x1.length : Int) then (if (rd x0 x5) = (rd x1 x5) then (laws_sameInts.l0 k x0 x1 (wrap64 (x5 + 1))) else (some false)) else (none)) else (none)) else (some true)
def laws_sameInts.f (k : Nat) (l0 : List Int) (l1 : List Int) : Option (Bool) := if (l0.length : Int) = (l1.length : Int) then (laws_sameInts.l0 k l0 l1 0) else (some false)
set_option maxHeartbeats 8000000 in
set_option maxRecDepth 100000 in
theorem laws_sameInts.calls (k : Nat) (A0 : Option Addr) (c0 : Nat) (l0 : List Int) (A1 : Option Addr) (c1 : Nat) (l1 : List Int) (r : Bool) (w : World) (hr0 : Kd.C (Kd.int .i64) w A0 l0.length l0) (hc0 : l0.length ≤ c0) (hr1 : Kd.C (Kd.int .i64) w A1 l1.length l1) (hc1 : l1.length ≤ c1) (h : laws_sameInts.f k l0 l1 = some r) :
  Calls Try.prog 31 #[.slice A0 l0.length c0, .slice A1 l1.length c1] w fun e w' => e = .returned (.bool r) ∧ Drawn0 w w' := by
 have b5:=zqm hr0;have c9:=zqm hc0;clear hr0 hc0;have b6:=zqm hr1;have d0:=zqm hc1;clear hr1 hc1;have H:(if(l0.length:Int)=(l1.length:Int) then(laws_sameInts.l0 k l0 l1 0) else(some false))=some r:=h;clear h
 by_cases c3:(l0.length:Int)=(l1.length:Int)
 ·rw [if_pos c3] at H;have a9:((l0.length:Int)==(l1.length:Int))=true:=beq_iff_eq.mpr c3;have b0:((l0.length:Int) !=(l1.length:Int))=false:=bne_eq_false_iff_eq.mpr c3;(have b1:(l0.length==l1.length)=true:=by first|simpa using c3|(simp at c3 ⊢;omega));clear c3;have H':=zqm H;clear H
  go_enter Try.func31,Try.ntmps31
  go_wp2
  repeat(go_quiet (fail);try go_wp2)
  go_loopg [5] k (fun kq v5 w'=> ∃(a0:Int),v5= .int .i64 a0∧Aside0 (laws_sameInts.l0 kq l0 l1 a0=some r)∧Aside0 (kq≤k)∧Drawn0 w w')
  case atStart=>exact⟨(0),zq6,H',⟨Nat.le_refl _⟩,zq8⟩
  case round=>
   clear H';(try clear c1);(try clear p2);(try clear c3);(try clear a9);(try clear b0);(try clear b1);obtain⟨a0,rfl,HA,b4,⟨m1,rfl⟩⟩:=hrel
   cases gk with
   |zero=>exact absurd HA.out (by simp [laws_sameInts.l0])
   |succ k1=>
    have H:=HA.out;clear HA;simp only [laws_sameInts.l0] at H
    by_cases c4:a0<(l0.length:Int)
    ·rw [if_pos c4] at H;have b7:decide (a0<(l0.length:Int))=true:=decide_eq_true c4;clear c4
     by_cases c5:0≤a0
     ·rw [if_pos c5] at H;have c2:decide (0≤a0)=true:=decide_eq_true c5;clear c5
      by_cases c6:a0<(l1.length:Int)
      ·rw [if_pos c6] at H;have c8:decide (a0<(l1.length:Int))=true:=decide_eq_true c6;clear c6
       by_cases c7:(rd l0 a0)=(rd l1 a0)
       ·rw [if_pos c7] at H;have b8:((rd l0 a0)==(rd l1 a0))=true:=beq_iff_eq.mpr c7;have b9:((rd l0 a0) !=(rd l1 a0))=false:=bne_eq_false_iff_eq.mpr c7;clear c7;have H':=zqm H;clear H;have a1:0≤(a0:Int):=zqo;have a3:a0<(l0.length:Int):=zqo;obtain⟨b2,a5,a7⟩:=Kd.at_int b5.out a0 a1 a3
        cases a5
        replace a1:=eq_true a1;replace a3:=eq_true a3;have a2:0≤(a0:Int):=zqo;have a4:a0<(l1.length:Int):=zqo;obtain⟨b3,a6,a8⟩:=Kd.at_int b6.out a0 a2 a4
        cases a6
        replace a2:=eq_true a2;replace a4:=eq_true a4
        go_wp2
        repeat(go_quiet (fail);try go_wp2)
        go_roundg k1
        (case measure=>have:=b4.out;omega);case rel=>exact⟨(wrap64 (a0+1)),zq6,H',⟨by have:=b4.out;omega⟩,zq8⟩
       ·rw [if_neg c7] at H;have b8:((rd l0 a0)==(rd l1 a0))=false:=beq_eq_false_iff_ne.mpr c7;have b9:((rd l0 a0) !=(rd l1 a0))=true:=bne_iff_ne.mpr c7;obtain rfl:=Option.some.inj H;have a1:0≤(a0:Int):=zqo;have a3:a0<(l0.length:Int):=zqo;obtain⟨b2,a5,a7⟩:=Kd.at_int b5.out a0 a1 a3
        cases a5
        replace a1:=eq_true a1;replace a3:=eq_true a3;have a2:0≤(a0:Int):=zqo;have a4:a0<(l1.length:Int):=zqo;obtain⟨b3,a6,a8⟩:=Kd.at_int b6.out a0 a2 a4
        cases a6
        replace a2:=eq_true a2;replace a4:=eq_true a4
        go_wp2
        repeat(go_quiet (fail);try go_wp2)
        go_ret
        exact⟨zq6,zq8⟩
      ·rw [if_neg c6] at H;exact absurd H (by simp)
     ·rw [if_neg c5] at H;exact absurd H (by simp)
    ·rw [if_neg c4] at H;have b7:decide (a0<(l0.length:Int))=false:=decide_eq_false c4;clear c4;obtain rfl:=Option.some.inj H
     go_wp2
     repeat(go_quiet (fail);try go_wp2)
     go_ret
     exact⟨zq6,zq8⟩
 ·rw [if_neg c3] at H;have a9:((l0.length:Int)==(l1.length:Int))=false:=beq_eq_false_iff_ne.mpr c3;have b0:((l0.length:Int) !=(l1.length:Int))=true:=bne_iff_ne.mpr c3;(have b1:(l0.length==l1.length)=false:=by first|simpa using c3|(simp at c3 ⊢;omega));obtain rfl:=Option.some.inj H
  go_enter Try.func31,Try.ntmps31
  go_wp2
  repeat(go_quiet (fail);try go_wp2)
  go_ret
  exact⟨zq6,zq8⟩
end
section
attribute [local go_sem] max2_int min2_int max_two min_two max_three min_three max_four min_four
def laws_ascend.l0 : Nat → List Int → Int → Option (Bool)
 | 0, _, _ => none
 | k + 1, x0, x3 => if x3 < (x0.length : Int) then (if 0 ≤ (wrap64 (x3 - 1)) then (if (wrap64 (x3 - 1)) < (x0.length : Int) then (if 0 ≤ x3 then (if (rd x0 (wrap64 (x3 - 1))) ≥ (rd x0 x3) then (some false) else (laws_ascend.l0 k x0 (wrap64 (x3 + 1)))) else (none)) else (none)) else (none)) else (some true)
def laws_ascend.f (k : Nat) (l0 : List Int) : Option (Bool) := laws_ascend.l0 k l0 1
set_option maxHeartbeats 8000000 in
set_option maxRecDepth 100000 in
theorem laws_ascend.calls (k : Nat) (A0 : Option Addr) (c0 : Nat) (l0 : List Int) (r : Bool) (w : World) (hr0 : Kd.C (Kd.int .i64) w A0 l0.length l0) (hc0 : l0.length ≤ c0) (h : laws_ascend.f k l0 = some r) :
  Calls Try.prog 38 #[.slice A0 l0.length c0] w fun e w' => e = .returned (.bool r) ∧ Drawn0 w w' := by
 have b1:=zqm hr0;have c3:=zqm hc0;clear hr0 hc0;have H:(laws_ascend.l0 k l0 1)=some r:=h;clear h;have H':=zqm H;clear H
 go_enter Try.func38,Try.ntmps38
 go_wp2
 repeat(go_quiet (fail);try go_wp2)
 go_loopg [3] k (fun kq v3 w'=> ∃(a0:Int),v3= .int .i64 a0∧Aside0 (laws_ascend.l0 kq l0 a0=some r)∧Aside0 (kq≤k)∧Drawn0 w w')
 case atStart=>exact⟨(1),zq6,H',⟨Nat.le_refl _⟩,zq8⟩
 case round=>
  clear H';obtain⟨a0,rfl,HA,b4,⟨m1,rfl⟩⟩:=hrel
  cases gk with
  |zero=>exact absurd HA.out (by simp [laws_ascend.l0])
  |succ k1=>
   have H:=HA.out;clear HA;simp only [laws_ascend.l0] at H
   by_cases c2:a0<(l0.length:Int)
   ·rw [if_pos c2] at H;have b5:decide (a0<(l0.length:Int))=true:=decide_eq_true c2;clear c2;obtain⟨a1,a8⟩: ∃j_:Int,(wrap64 (a0 - 1))=j_:=⟨_,rfl⟩;(replace H:(if 0≤(a1) then(if(a1)<(l0.length:Int) then(if 0≤a0 then(if(rd l0 (a1))≥(rd l0 a0) then(some false) else(laws_ascend.l0 k1 l0 (wrap64 (a0+1)))) else(none)) else(none)) else(none))=some r:=by first|(rw [a8] at H;exact H)|(simp only [a8] at H ⊢;exact H));have b7:(IntKind.i64.wrap (a0 - 1))=a1:=(i64_w _).trans a8
    by_cases c4:0≤(a1)
    ·rw [if_pos c4] at H;have b8:decide (0≤(a1))=true:=decide_eq_true c4;clear c4
     by_cases c5:(a1)<(l0.length:Int)
     ·rw [if_pos c5] at H;have b9:decide ((a1)<(l0.length:Int))=true:=decide_eq_true c5;clear c5
      by_cases c6:0≤a0
      ·rw [if_pos c6] at H;have c1:decide (0≤a0)=true:=decide_eq_true c6;clear c6
       by_cases c7:(rd l0 (a1))≥(rd l0 a0)
       ·rw [if_pos c7] at H;have b6:decide ((rd l0 a0)≤(rd l0 (a1)))=true:=decide_eq_true c7;clear c7;obtain rfl:=Option.some.inj H;have a2:0≤((a1):Int):=zqo;have a4:(a1)<(l0.length:Int):=zqo;obtain⟨a6,a9,b2⟩:=Kd.at_int b1.out (a1) a2 a4
        cases a9
        replace a2:=eq_true a2;replace a4:=eq_true a4;have a3:0≤(a0:Int):=zqo;have a5:a0<(l0.length:Int):=zqo;obtain⟨a7,b0,b3⟩:=Kd.at_int b1.out a0 a3 a5;obtain rfl:a6=a7:=(by injection b0);replace a3:=eq_true a3;replace a5:=eq_true a5
        go_wp2
        repeat(go_quiet (fail);try go_wp2)
        go_ret
        exact⟨by first|rfl|(simp;done)|(simp only [← a8] <;> (first|rfl|simp))|(simp [*];done),zq8⟩
       ·rw [if_neg c7] at H;have b6:decide ((rd l0 a0)≤(rd l0 (a1)))=false:=decide_eq_false c7;clear c7;have H':=zqm H;clear H;have a2:0≤((a1):Int):=zqo;have a4:(a1)<(l0.length:Int):=zqo;obtain⟨a6,a9,b2⟩:=Kd.at_int b1.out (a1) a2 a4
        cases a9
        replace a2:=eq_true a2;replace a4:=eq_true a4;have a3:0≤(a0:Int):=zqo;have a5:a0<(l0.length:Int):=zqo;obtain⟨a7,b0,b3⟩:=Kd.at_int b1.out a0 a3 a5;obtain rfl:a6=a7:=(by injection b0);replace a3:=eq_true a3;replace a5:=eq_true a5
        go_wp2
        repeat(go_quiet (fail);try go_wp2)
        go_roundg k1
        (case measure=>have:=b4.out;omega);case rel=>exact⟨(wrap64 (a0+1)),zq6,H',⟨by have:=b4.out;omega⟩,zq8⟩
      ·rw [if_neg c6] at H;exact absurd H (by simp)
     ·rw [if_neg c5] at H;exact absurd H (by simp)
    ·rw [if_neg c4] at H;exact absurd H (by simp)
   ·rw [if_neg c2] at H;have b5:decide (a0<(l0.length:Int))=false:=decide_eq_false c2;clear c2;obtain rfl:=Option.some.inj H
    go_wp2
    repeat(go_quiet (fail);try go_wp2)
    go_ret
    exact⟨zq6,zq8⟩
end
section
attribute [local go_sem] max2_int min2_int max_two min_two max_three min_three max_four min_four
mutual
def spec_l1Meet.l0 : Nat → List (List Int) → Int → Int → Int → Int → Option (Int)
 | 0, _, _, _, _, _ => none
 | k + 1, x0, x1, x2, x7, x8 => if x8 < (x0.length : Int) then (if 0 ≤ x8 then (if 0 ≤ x1 then (if x1 < ((rd_L2 x0 x8).length : Int) then (if (rd (rd_L2 x0 x8) x1) = 1 then (if 0 ≤ x2 then (if x2 < ((rd_L2 x0 x8).length : Int) then (if (rd (rd_L2 x0 x8) x2) = 1 then (if x7 < 0 then (spec_l1Meet.l0 k x0 x1 x2 x8 (wrap64 (x8 + 1))) else (if 0 ≤ x7 then (if x7 < (x0.length : Int) then (if x8 < ((rd_L2 x0 x7).length : Int) then (if (rd (rd_L2 x0 x7) x8) = 1 then (spec_l1Meet.l0 k x0 x1 x2 x8 (wrap64 (x8 + 1))) else (spec_l1Meet.l0 k x0 x1 x2 x7 (wrap64 (x8 + 1)))) else (none)) else (none)) else (none))) else (spec_l1Meet.l0 k x0 x1 x2 x7 (wrap64 (x8 + 1)))) else (none)) else (none)) else (spec_l1Meet.l0 k x0 x1 x2 x7 (wrap64 (x8 + 1)))) else (none)) else (none)) else (none)) else (spec_l1Meet.l1 k x0 x1 x2 x7 0)
def spec_l1Meet.l1 : Nat → List (List Int) → Int → Int → Int → Int → Option (Int)
 | 0, _, _, _, _, _ => none
 | k + 1, x0, x1, x2, x7, x9 => if x9 < (x0.length : Int) then (if 0 ≤ x9 then (if 0 ≤ x1 then (if x1 < ((rd_L2 x0 x9).length : Int) then (if (rd (rd_L2 x0 x9) x1) = 1 then (if 0 ≤ x2 then (if x2 < ((rd_L2 x0 x9).length : Int) then (if (rd (rd_L2 x0 x9) x2) = 1 then (if 0 ≤ x7 then (if x7 < ((rd_L2 x0 x9).length : Int) then (if (rd (rd_L2 x0 x9) x7) = 0 then (some (-1)) else (spec_l1Meet.l1 k x0 x1 x2 x7 (wrap64 (x9 + 1)))) else (none)) else (none)) else (spec_l1Meet.l1 k x0 x1 x2 x7 (wrap64 (x9 + 1)))) else (none)) else (none)) else (spec_l1Meet.l1 k x0 x1 x2 x7 (wrap64 (x9 + 1)))) else (none)) else (none)) else (none)) else (some x7)
end
def spec_l1Meet.f (k : Nat) (l0 : List (List Int)) (a1 : Int) (a2 : Int) : Option (Int) := spec_l1Meet.l0 k l0 a1 a2 (-1) 0
set_option maxHeartbeats 8000000 in
set_option maxRecDepth 100000 in
theorem spec_l1Meet.calls (k : Nat) (A0 : Option Addr) (c0 : Nat) (l0 : List (List Int)) (a1 : Int) (a2 : Int) (r : Int) (w : World) (hr0 : Kd.C (Kd.slice 3 (Kd.int .i64)) w A0 l0.length l0) (hc0 : l0.length ≤ c0) (h : spec_l1Meet.f k l0 a1 a2 = some r) :
  Calls Try.prog 80 #[.slice A0 l0.length c0, .int .i64 a1, .int .i64 a2] w fun e w' => e = .returned (.int .i64 r) ∧ Drawn0 w w' := by
 have d1:=zqm hr0;have q5:=zqm hc0;clear hr0 hc0;have H:(spec_l1Meet.l0 k l0 a1 a2 (-1) 0)=some r:=h;clear h;have H':=zqm H;clear H
 go_enter Try.func80,Try.ntmps80
 go_wp2
 go_loopg [7,8] k (fun kq v7 v8 w'=> ∃(a4:Int) (a0:Int),v7= .int .i64 a4∧v8= .int .i64 a0∧Aside0 (spec_l1Meet.l0 kq l0 a1 a2 a4 a0=some r)∧Aside0 (kq≤k)∧Drawn0 w w')
 case atStart=>exact⟨((-1)),(0),zq6,zq6,H',⟨Nat.le_refl _⟩,zq8⟩
 case round=>
  clear H';obtain⟨a4,a0,rfl,rfl,HA,e0,⟨m1,rfl⟩⟩:=hrel
  cases gk with
  |zero=>exact absurd HA.out (by simp [spec_l1Meet.l0])
  |succ k1=>
   have H:=HA.out;clear HA;simp only [spec_l1Meet.l0] at H
   by_cases c4:a0<(l0.length:Int)
   ·rw [if_pos c4] at H;have o7:decide (a0<(l0.length:Int))=true:=decide_eq_true c4;clear c4
    by_cases c5:0≤a0
    ·rw [if_pos c5] at H;have q1:decide (0≤a0)=true:=decide_eq_true c5;clear c5
     by_cases c6:0≤a1
     ·rw [if_pos c6] at H;have q2:decide (0≤a1)=true:=decide_eq_true c6;clear c6
      by_cases c7:a1<((rd_L2 l0 a0).length:Int)
      ·rw [if_pos c7] at H;have q3:decide (a1<((rd_L2 l0 a0).length:Int))=true:=decide_eq_true c7;clear c7
       by_cases c8:(rd (rd_L2 l0 a0) a1)=1
       ·rw [if_pos c8] at H;have o8:((rd (rd_L2 l0 a0) a1)==1)=true:=beq_iff_eq.mpr c8;have o9:((rd (rd_L2 l0 a0) a1) !=1)=false:=bne_eq_false_iff_eq.mpr c8;clear c8
        by_cases c9:0≤a2
        ·rw [if_pos c9] at H;have q4:decide (0≤a2)=true:=decide_eq_true c9;clear c9
         by_cases k9:a2<((rd_L2 l0 a0).length:Int)
         ·rw [if_pos k9] at H;have p0:decide (a2<((rd_L2 l0 a0).length:Int))=true:=decide_eq_true k9;clear k9
          by_cases i2:(rd (rd_L2 l0 a0) a2)=1
          ·rw [if_pos i2] at H;have n5:((rd (rd_L2 l0 a0) a2)==1)=true:=beq_iff_eq.mpr i2;have n6:((rd (rd_L2 l0 a0) a2) !=1)=false:=bne_eq_false_iff_eq.mpr i2;clear i2
           by_cases j3:a4<0
           ·rw [if_pos j3] at H;have n7:decide (a4<0)=true:=decide_eq_true j3;clear j3;have H':=zqm H;clear H;have b1:0≤(a0:Int):=zqo;have b3:a0<(l0.length:Int):=zqo;obtain⟨d9,g9,h1,f3,d4,a6,a5⟩:=at_L2 d1.out a0 b1 b3
            cases f3
            have b5:=zqm a5;have f5:=zqm a6;clear a5 a6;replace b1:=eq_true b1;replace b3:=eq_true b3;have b2:0≤(a1:Int):=zqo;have b4:a1<((rd_L2 l0 a0).length:Int):=zqo;obtain⟨h9,f4,f6⟩:=Kd.at_int b5.out a1 b2 b4
            cases f4
            replace b2:=eq_true b2;replace b4:=eq_true b4;have b6:0≤(a0:Int):=zqo;have c1:a0<(l0.length:Int):=zqo;obtain⟨f2,i0,i7,f7,d8,a9,a7⟩:=at_L2 d1.out a0 b6 c1;obtain rfl:d9=f2:=(by injection f7);have d6:=zqm a7;have h2:=zqm a9;clear a7 a9;replace b6:=eq_true b6;replace c1:=eq_true c1;have ea_:=Option.some.inj (d4.symm.trans d8);injection ea_ with ea_ en_ ec_;subst ea_;subst ec_;clear en_;have b7:0≤(a2:Int):=zqo;have c2:a2<((rd_L2 l0 a0).length:Int):=zqo;obtain⟨j6,f8,h6⟩:=Kd.at_int d6.out a2 b7 c2
            cases f8
            replace b7:=eq_true b7;replace c2:=eq_true c2
            go_wp2
            go_roundg k1
            (case measure=>have:=e0.out;omega);case rel=>exact⟨(a0),(wrap64 (a0+1)),zq6,zq6,H',⟨by have:=e0.out;omega⟩,zq8⟩
           ·rw [if_neg j3] at H;have n7:decide (a4<0)=false:=decide_eq_false j3;clear j3
            by_cases l2:0≤a4
            ·rw [if_pos l2] at H;have p1:decide (0≤a4)=true:=decide_eq_true l2;clear l2
             by_cases l3:a4<(l0.length:Int)
             ·rw [if_pos l3] at H;have p2:decide (a4<(l0.length:Int))=true:=decide_eq_true l3;clear l3
              by_cases l4:a0<((rd_L2 l0 a4).length:Int)
              ·rw [if_pos l4] at H;have p3:decide (a0<((rd_L2 l0 a4).length:Int))=true:=decide_eq_true l4;clear l4
               by_cases i3:(rd (rd_L2 l0 a4) a0)=1
               ·rw [if_pos i3] at H;have n8:((rd (rd_L2 l0 a4) a0)==1)=true:=beq_iff_eq.mpr i3;have n9:((rd (rd_L2 l0 a4) a0) !=1)=false:=bne_eq_false_iff_eq.mpr i3;clear i3;have H':=zqm H;clear H;have b1:0≤(a0:Int):=zqo;have b3:a0<(l0.length:Int):=zqo;obtain⟨d9,g9,h1,f3,d4,a6,a5⟩:=at_L2 d1.out a0 b1 b3
                cases f3
                have b5:=zqm a5;have f5:=zqm a6;clear a5 a6;replace b1:=eq_true b1;replace b3:=eq_true b3;have b2:0≤(a1:Int):=zqo;have b4:a1<((rd_L2 l0 a0).length:Int):=zqo;obtain⟨h9,f4,f6⟩:=Kd.at_int b5.out a1 b2 b4
                cases f4
                replace b2:=eq_true b2;replace b4:=eq_true b4;have b6:0≤(a0:Int):=zqo;have c1:a0<(l0.length:Int):=zqo;obtain⟨f2,i0,i7,f7,d8,a9,a7⟩:=at_L2 d1.out a0 b6 c1;obtain rfl:d9=f2:=(by injection f7);have d6:=zqm a7;have h2:=zqm a9;clear a7 a9;replace b6:=eq_true b6;replace c1:=eq_true c1;have ea_:=Option.some.inj (d4.symm.trans d8);injection ea_ with ea_ en_ ec_;subst ea_;subst ec_;clear en_;have b7:0≤(a2:Int):=zqo;have c2:a2<((rd_L2 l0 a0).length:Int):=zqo;obtain⟨j6,f8,h6⟩:=Kd.at_int d6.out a2 b7 c2
                cases f8
                replace b7:=eq_true b7;replace c2:=eq_true c2;have g1:0≤(a4:Int):=zqo;have g5:a4<(l0.length:Int):=zqo;obtain⟨j7,m9,n1,k4,m6,e9,e7⟩:=at_L2 d1.out a4 g1 g5;obtain rfl:d9=j7:=(by injection k4);have h4:=zqm e7;have m4:=zqm e9;clear e7 e9;replace g1:=eq_true g1;replace g5:=eq_true g5;have g2:0≤(a0:Int):=zqo;have g6:a0<((rd_L2 l0 a4).length:Int):=zqo;obtain⟨n3,k5,m7⟩:=Kd.at_int h4.out a0 g2 g6
                cases k5
                replace g2:=eq_true g2;replace g6:=eq_true g6
                go_wp2
                go_roundg k1
                (case measure=>have:=e0.out;omega);case rel=>exact⟨(a0),(wrap64 (a0+1)),zq6,zq6,H',⟨by have:=e0.out;omega⟩,zq8⟩
               ·rw [if_neg i3] at H;have n8:((rd (rd_L2 l0 a4) a0)==1)=false:=beq_eq_false_iff_ne.mpr i3;have n9:((rd (rd_L2 l0 a4) a0) !=1)=true:=bne_iff_ne.mpr i3;have H':=zqm H;clear H;have b1:0≤(a0:Int):=zqo;have b3:a0<(l0.length:Int):=zqo;obtain⟨d9,g9,h1,f3,d4,a6,a5⟩:=at_L2 d1.out a0 b1 b3
                cases f3
                have b5:=zqm a5;have f5:=zqm a6;clear a5 a6;replace b1:=eq_true b1;replace b3:=eq_true b3;have b2:0≤(a1:Int):=zqo;have b4:a1<((rd_L2 l0 a0).length:Int):=zqo;obtain⟨h9,f4,f6⟩:=Kd.at_int b5.out a1 b2 b4
                cases f4
                replace b2:=eq_true b2;replace b4:=eq_true b4;have b6:0≤(a0:Int):=zqo;have c1:a0<(l0.length:Int):=zqo;obtain⟨f2,i0,i7,f7,d8,a9,a7⟩:=at_L2 d1.out a0 b6 c1;obtain rfl:d9=f2:=(by injection f7);have d6:=zqm a7;have h2:=zqm a9;clear a7 a9;replace b6:=eq_true b6;replace c1:=eq_true c1;have ea_:=Option.some.inj (d4.symm.trans d8);injection ea_ with ea_ en_ ec_;subst ea_;subst ec_;clear en_;have b7:0≤(a2:Int):=zqo;have c2:a2<((rd_L2 l0 a0).length:Int):=zqo;obtain⟨j6,f8,h6⟩:=Kd.at_int d6.out a2 b7 c2
                cases f8
                replace b7:=eq_true b7;replace c2:=eq_true c2;have g1:0≤(a4:Int):=zqo;have g5:a4<(l0.length:Int):=zqo;obtain⟨j7,m9,n1,k4,m6,e9,e7⟩:=at_L2 d1.out a4 g1 g5;obtain rfl:d9=j7:=(by injection k4);have h4:=zqm e7;have m4:=zqm e9;clear e7 e9;replace g1:=eq_true g1;replace g5:=eq_true g5;have g2:0≤(a0:Int):=zqo;have g6:a0<((rd_L2 l0 a4).length:Int):=zqo;obtain⟨n3,k5,m7⟩:=Kd.at_int h4.out a0 g2 g6
                cases k5
                replace g2:=eq_true g2;replace g6:=eq_true g6
                go_wp2
                go_roundg k1
                (case measure=>have:=e0.out;omega);case rel=>exact⟨(a4),(wrap64 (a0+1)),zq6,zq6,H',⟨by have:=e0.out;omega⟩,zq8⟩
              ·rw [if_neg l4] at H;exact absurd H (by simp)
             ·rw [if_neg l3] at H;exact absurd H (by simp)
            ·rw [if_neg l2] at H;exact absurd H (by simp)
          ·rw [if_neg i2] at H;have n5:((rd (rd_L2 l0 a0) a2)==1)=false:=beq_eq_false_iff_ne.mpr i2;have n6:((rd (rd_L2 l0 a0) a2) !=1)=true:=bne_iff_ne.mpr i2;have H':=zqm H;clear H;have b1:0≤(a0:Int):=zqo;have b3:a0<(l0.length:Int):=zqo;obtain⟨d9,g9,h1,f3,d4,a6,a5⟩:=at_L2 d1.out a0 b1 b3
           cases f3
           have b5:=zqm a5;have f5:=zqm a6;clear a5 a6;replace b1:=eq_true b1;replace b3:=eq_true b3;have b2:0≤(a1:Int):=zqo;have b4:a1<((rd_L2 l0 a0).length:Int):=zqo;obtain⟨h9,f4,f6⟩:=Kd.at_int b5.out a1 b2 b4
           cases f4
           replace b2:=eq_true b2;replace b4:=eq_true b4;have b6:0≤(a0:Int):=zqo;have c1:a0<(l0.length:Int):=zqo;obtain⟨f2,i0,i7,f7,d8,a9,a7⟩:=at_L2 d1.out a0 b6 c1;obtain rfl:d9=f2:=(by injection f7);have d6:=zqm a7;have h2:=zqm a9;clear a7 a9;replace b6:=eq_true b6;replace c1:=eq_true c1;have ea_:=Option.some.inj (d4.symm.trans d8);injection ea_ with ea_ en_ ec_;subst ea_;subst ec_;clear en_;have b7:0≤(a2:Int):=zqo;have c2:a2<((rd_L2 l0 a0).length:Int):=zqo;obtain⟨j6,f8,h6⟩:=Kd.at_int d6.out a2 b7 c2
           cases f8
           replace b7:=eq_true b7;replace c2:=eq_true c2
           go_wp2
           go_roundg k1
           (case measure=>have:=e0.out;omega);case rel=>exact⟨(a4),(wrap64 (a0+1)),zq6,zq6,H',⟨by have:=e0.out;omega⟩,zq8⟩
         ·rw [if_neg k9] at H;exact absurd H (by simp)
        ·rw [if_neg c9] at H;exact absurd H (by simp)
       ·rw [if_neg c8] at H;have o8:((rd (rd_L2 l0 a0) a1)==1)=false:=beq_eq_false_iff_ne.mpr c8;have o9:((rd (rd_L2 l0 a0) a1) !=1)=true:=bne_iff_ne.mpr c8;have H':=zqm H;clear H;have b1:0≤(a0:Int):=zqo;have b3:a0<(l0.length:Int):=zqo;obtain⟨d9,g9,h1,f3,d4,a6,a5⟩:=at_L2 d1.out a0 b1 b3
        cases f3
        have b5:=zqm a5;have f5:=zqm a6;clear a5 a6;replace b1:=eq_true b1;replace b3:=eq_true b3;have b2:0≤(a1:Int):=zqo;have b4:a1<((rd_L2 l0 a0).length:Int):=zqo;obtain⟨h9,f4,f6⟩:=Kd.at_int b5.out a1 b2 b4
        cases f4
        replace b2:=eq_true b2;replace b4:=eq_true b4
        go_wp2
        go_roundg k1
        (case measure=>have:=e0.out;omega);case rel=>exact⟨(a4),(wrap64 (a0+1)),zq6,zq6,H',⟨by have:=e0.out;omega⟩,zq8⟩
      ·rw [if_neg c7] at H;exact absurd H (by simp)
     ·rw [if_neg c6] at H;exact absurd H (by simp)
    ·rw [if_neg c5] at H;exact absurd H (by simp)
   ·rw [if_neg c4] at H;have o7:decide (a0<(l0.length:Int))=false:=decide_eq_false c4;clear c4;have H':=zqm H;clear H
    go_wp2
    go_loopg [9] k1 (fun kq v9 w'=> ∃(a3:Int),v9= .int .i64 a3∧Aside0 (spec_l1Meet.l1 kq l0 a1 a2 a4 a3=some r)∧Aside0 (kq≤k1)∧Drawn0 w w')
    case atStart=>exact⟨(0),zq6,H',⟨Nat.le_refl _⟩,zq8⟩
    case round=>
     clear H';obtain⟨a3,rfl,HA,j2,⟨m2,rfl⟩⟩:=hrel
     cases gk with
     |zero=>exact absurd HA.out (by simp [spec_l1Meet.l1])
     |succ k2=>
      have H:=HA.out;clear HA;simp only [spec_l1Meet.l1] at H
      by_cases j4:a3<(l0.length:Int)
      ·rw [if_pos j4] at H;have o0:decide (a3<(l0.length:Int))=true:=decide_eq_true j4;clear j4
       by_cases l5:0≤a3
       ·rw [if_pos l5] at H;have p4:decide (0≤a3)=true:=decide_eq_true l5;clear l5
        by_cases l6:0≤a1
        ·rw [if_pos l6] at H;have p5:decide (0≤a1)=true:=decide_eq_true l6;clear l6
         by_cases l7:a1<((rd_L2 l0 a3).length:Int)
         ·rw [if_pos l7] at H;have p6:decide (a1<((rd_L2 l0 a3).length:Int))=true:=decide_eq_true l7;clear l7
          by_cases i4:(rd (rd_L2 l0 a3) a1)=1
          ·rw [if_pos i4] at H;have o1:((rd (rd_L2 l0 a3) a1)==1)=true:=beq_iff_eq.mpr i4;have o2:((rd (rd_L2 l0 a3) a1) !=1)=false:=bne_eq_false_iff_eq.mpr i4;clear i4
           by_cases l8:0≤a2
           ·rw [if_pos l8] at H;have p7:decide (0≤a2)=true:=decide_eq_true l8;clear l8
            by_cases l9:a2<((rd_L2 l0 a3).length:Int)
            ·rw [if_pos l9] at H;have p8:decide (a2<((rd_L2 l0 a3).length:Int))=true:=decide_eq_true l9;clear l9
             by_cases i5:(rd (rd_L2 l0 a3) a2)=1
             ·rw [if_pos i5] at H;have o3:((rd (rd_L2 l0 a3) a2)==1)=true:=beq_iff_eq.mpr i5;have o4:((rd (rd_L2 l0 a3) a2) !=1)=false:=bne_eq_false_iff_eq.mpr i5;clear i5
              by_cases m0:0≤a4
              ·rw [if_pos m0] at H;have p9:decide (0≤a4)=true:=decide_eq_true m0;clear m0
               by_cases m3:a4<((rd_L2 l0 a3).length:Int)
               ·rw [if_pos m3] at H;have q0:decide (a4<((rd_L2 l0 a3).length:Int))=true:=decide_eq_true m3;clear m3
                by_cases i6:(rd (rd_L2 l0 a3) a4)=0
                ·rw [if_pos i6] at H;have o5:((rd (rd_L2 l0 a3) a4)==0)=true:=beq_iff_eq.mpr i6;have o6:((rd (rd_L2 l0 a3) a4) !=0)=false:=bne_eq_false_iff_eq.mpr i6;clear i6;obtain rfl:=Option.some.inj H;have b8:0≤(a3:Int):=zqo;have c3:a3<(l0.length:Int):=zqo;obtain⟨e5,i1,i8,f9,d5,b0,a8⟩:=at_L2 d1.out a3 b8 c3
                 cases f9
                 have d7:=zqm a8;have h3:=zqm b0;clear a8 b0;replace b8:=eq_true b8;replace c3:=eq_true c3;have b9:0≤(a1:Int):=zqo;have d0:a1<((rd_L2 l0 a3).length:Int):=zqo;obtain⟨j8,g0,h7⟩:=Kd.at_int d7.out a1 b9 d0
                 cases g0
                 replace b9:=eq_true b9;replace d0:=eq_true d0;have e1:0≤(a3:Int):=zqo;have e3:a3<(l0.length:Int):=zqo;obtain⟨h0,k0,k3,i9,f1,d3,d2⟩:=at_L2 d1.out a3 e1 e3;obtain rfl:e5=h0:=(by injection i9);have e6:=zqm d2;have j1:=zqm d3;clear d2 d3;replace e1:=eq_true e1;replace e3:=eq_true e3;have ea_:=Option.some.inj (d5.symm.trans f1);injection ea_ with ea_ en_ ec_;subst ea_;subst ec_;clear en_;have e2:0≤(a2:Int):=zqo;have e4:a2<((rd_L2 l0 a3).length:Int):=zqo;obtain⟨k8,j0,j5⟩:=Kd.at_int e6.out a2 e2 e4
                 cases j0
                 replace e2:=eq_true e2;replace e4:=eq_true e4;have g3:0≤(a3:Int):=zqo;have g7:a3<(l0.length:Int):=zqo;obtain⟨j9,n0,n2,k6,h8,f0,e8⟩:=at_L2 d1.out a3 g3 g7;obtain rfl:e5=j9:=(by injection k6);have h5:=zqm e8;have m5:=zqm f0;clear e8 f0;replace g3:=eq_true g3;replace g7:=eq_true g7;have ea_:=Option.some.inj (d5.symm.trans h8);injection ea_ with ea_ en_ ec_;subst ea_;subst ec_;clear en_;have g4:0≤(a4:Int):=zqo;have g8:a4<((rd_L2 l0 a3).length:Int):=zqo;obtain⟨n4,k7,m8⟩:=Kd.at_int h5.out a4 g4 g8
                 cases k7
                 replace g4:=eq_true g4;replace g8:=eq_true g8
                 go_wp2
                 go_ret
                 exact⟨zq6,zq8⟩
                ·rw [if_neg i6] at H;have o5:((rd (rd_L2 l0 a3) a4)==0)=false:=beq_eq_false_iff_ne.mpr i6;have o6:((rd (rd_L2 l0 a3) a4) !=0)=true:=bne_iff_ne.mpr i6;have H':=zqm H;clear H;have b8:0≤(a3:Int):=zqo;have c3:a3<(l0.length:Int):=zqo;obtain⟨e5,i1,i8,f9,d5,b0,a8⟩:=at_L2 d1.out a3 b8 c3
                 cases f9
                 have d7:=zqm a8;have h3:=zqm b0;clear a8 b0;replace b8:=eq_true b8;replace c3:=eq_true c3;have b9:0≤(a1:Int):=zqo;have d0:a1<((rd_L2 l0 a3).length:Int):=zqo;obtain⟨j8,g0,h7⟩:=Kd.at_int d7.out a1 b9 d0
                 cases g0
                 replace b9:=eq_true b9;replace d0:=eq_true d0;have e1:0≤(a3:Int):=zqo;have e3:a3<(l0.length:Int):=zqo;obtain⟨h0,k0,k3,i9,f1,d3,d2⟩:=at_L2 d1.out a3 e1 e3;obtain rfl:e5=h0:=(by injection i9);have e6:=zqm d2;have j1:=zqm d3;clear d2 d3;replace e1:=eq_true e1;replace e3:=eq_true e3;have ea_:=Option.some.inj (d5.symm.trans f1);injection ea_ with ea_ en_ ec_;subst ea_;subst ec_;clear en_;have e2:0≤(a2:Int):=zqo;have e4:a2<((rd_L2 l0 a3).length:Int):=zqo;obtain⟨k8,j0,j5⟩:=Kd.at_int e6.out a2 e2 e4
                 cases j0
                 replace e2:=eq_true e2;replace e4:=eq_true e4;have g3:0≤(a3:Int):=zqo;have g7:a3<(l0.length:Int):=zqo;obtain⟨j9,n0,n2,k6,h8,f0,e8⟩:=at_L2 d1.out a3 g3 g7;obtain rfl:e5=j9:=(by injection k6);have h5:=zqm e8;have m5:=zqm f0;clear e8 f0;replace g3:=eq_true g3;replace g7:=eq_true g7;have ea_:=Option.some.inj (d5.symm.trans h8);injection ea_ with ea_ en_ ec_;subst ea_;subst ec_;clear en_;have g4:0≤(a4:Int):=zqo;have g8:a4<((rd_L2 l0 a3).length:Int):=zqo;obtain⟨n4,k7,m8⟩:=Kd.at_int h5.out a4 g4 g8
                 cases k7
                 replace g4:=eq_true g4;replace g8:=eq_true g8
                 go_wp2
                 go_roundg k2
                 (case measure=> exact zq162);case rel=>exact⟨(wrap64 (a3+1)),zq6,H',⟨zq162⟩,zq8⟩
               ·rw [if_neg m3] at H;exact absurd H (by simp)
              ·rw [if_neg m0] at H;exact absurd H (by simp)
             ·rw [if_neg i5] at H;have o3:((rd (rd_L2 l0 a3) a2)==1)=false:=beq_eq_false_iff_ne.mpr i5;have o4:((rd (rd_L2 l0 a3) a2) !=1)=true:=bne_iff_ne.mpr i5;have H':=zqm H;clear H;have b8:0≤(a3:Int):=zqo;have c3:a3<(l0.length:Int):=zqo;obtain⟨e5,i1,i8,f9,d5,b0,a8⟩:=at_L2 d1.out a3 b8 c3
              cases f9
              have d7:=zqm a8;have h3:=zqm b0;clear a8 b0;replace b8:=eq_true b8;replace c3:=eq_true c3;have b9:0≤(a1:Int):=zqo;have d0:a1<((rd_L2 l0 a3).length:Int):=zqo;obtain⟨j8,g0,h7⟩:=Kd.at_int d7.out a1 b9 d0
              cases g0
              replace b9:=eq_true b9;replace d0:=eq_true d0;have e1:0≤(a3:Int):=zqo;have e3:a3<(l0.length:Int):=zqo;obtain⟨h0,k0,k3,i9,f1,d3,d2⟩:=at_L2 d1.out a3 e1 e3;obtain rfl:e5=h0:=(by injection i9);have e6:=zqm d2;have j1:=zqm d3;clear d2 d3;replace e1:=eq_true e1;replace e3:=eq_true e3;have ea_:=Option.some.inj (d5.symm.trans f1);injection ea_ with ea_ en_ ec_;subst ea_;subst ec_;clear en_;have e2:0≤(a2:Int):=zqo;have e4:a2<((rd_L2 l0 a3).length:Int):=zqo;obtain⟨k8,j0,j5⟩:=Kd.at_int e6.out a2 e2 e4
              cases j0
              replace e2:=eq_true e2;replace e4:=eq_true e4
              go_wp2
              go_roundg k2
              (case measure=> exact zq162);case rel=>exact⟨(wrap64 (a3+1)),zq6,H',⟨zq162⟩,zq8⟩
            ·rw [if_neg l9] at H;exact absurd H (by simp)
           ·rw [if_neg l8] at H;exact absurd H (by simp)
          ·rw [if_neg i4] at H;have o1:((rd (rd_L2 l0 a3) a1)==1)=false:=beq_eq_false_iff_ne.mpr i4;have o2:((rd (rd_L2 l0 a3) a1) !=1)=true:=bne_iff_ne.mpr i4;have H':=zqm H;clear H;have b8:0≤(a3:Int):=zqo;have c3:a3<(l0.length:Int):=zqo;obtain⟨e5,i1,i8,f9,d5,b0,a8⟩:=at_L2 d1.out a3 b8 c3
           cases f9
           have d7:=zqm a8;have h3:=zqm b0;clear a8 b0;replace b8:=eq_true b8;replace c3:=eq_true c3;have b9:0≤(a1:Int):=zqo;have d0:a1<((rd_L2 l0 a3).length:Int):=zqo;obtain⟨j8,g0,h7⟩:=Kd.at_int d7.out a1 b9 d0
           cases g0
           replace b9:=eq_true b9;replace d0:=eq_true d0
           go_wp2
           go_roundg k2
           (case measure=> exact zq162);case rel=>exact⟨(wrap64 (a3+1)),zq6,H',⟨zq162⟩,zq8⟩
         ·rw [if_neg l7] at H;exact absurd H (by simp)
        ·rw [if_neg l6] at H;exact absurd H (by simp)
       ·rw [if_neg l5] at H;exact absurd H (by simp)
      ·rw [if_neg j4] at H;have o0:decide (a3<(l0.length:Int))=false:=decide_eq_false j4;clear j4;obtain rfl:=Option.some.inj H
       go_wp2
       go_ret
       exact⟨zq6,zq8⟩
end
section
attribute [local go_sem] max2_int min2_int max_two min_two max_three min_three max_four min_four
mutual
def spec_l1Join.l0 : Nat → List (List Int) → Int → Int → Int → Int → Option (Int)
 | 0, _, _, _, _, _ => none
 | k + 1, x0, x1, x2, x7, x8 => if x8 < (x0.length : Int) then (if 0 ≤ x1 then (if x1 < (x0.length : Int) then (if 0 ≤ x8 then (if x8 < ((rd_L2 x0 x1).length : Int) then (if (rd (rd_L2 x0 x1) x8) = 1 then (if 0 ≤ x2 then (if x2 < (x0.length : Int) then (if x8 < ((rd_L2 x0 x2).length : Int) then (if (rd (rd_L2 x0 x2) x8) = 1 then (if x7 < 0 then (spec_l1Join.l0 k x0 x1 x2 x8 (wrap64 (x8 + 1))) else (if 0 ≤ x7 then (if x7 < ((rd_L2 x0 x8).length : Int) then (if (rd (rd_L2 x0 x8) x7) = 1 then (spec_l1Join.l0 k x0 x1 x2 x8 (wrap64 (x8 + 1))) else (spec_l1Join.l0 k x0 x1 x2 x7 (wrap64 (x8 + 1)))) else (none)) else (none))) else (spec_l1Join.l0 k x0 x1 x2 x7 (wrap64 (x8 + 1)))) else (none)) else (none)) else (none)) else (spec_l1Join.l0 k x0 x1 x2 x7 (wrap64 (x8 + 1)))) else (none)) else (none)) else (none)) else (none)) else (spec_l1Join.l1 k x0 x1 x2 x7 0)
def spec_l1Join.l1 : Nat → List (List Int) → Int → Int → Int → Int → Option (Int)
 | 0, _, _, _, _, _ => none
 | k + 1, x0, x1, x2, x7, x9 => if x9 < (x0.length : Int) then (if 0 ≤ x1 then (if x1 < (x0.length : Int) then (if 0 ≤ x9 then (if x9 < ((rd_L2 x0 x1).length : Int) then (if (rd (rd_L2 x0 x1) x9) = 1 then (if 0 ≤ x2 then (if x2 < (x0.length : Int) then (if x9 < ((rd_L2 x0 x2).length : Int) then (if (rd (rd_L2 x0 x2) x9) = 1 then (if 0 ≤ x7 then (if x7 < (x0.length : Int) then (if x9 < ((rd_L2 x0 x7).length : Int) then (if (rd (rd_L2 x0 x7) x9) = 0 then (some (-1)) else (spec_l1Join.l1 k x0 x1 x2 x7 (wrap64 (x9 + 1)))) else (none)) else (none)) else (none)) else (spec_l1Join.l1 k x0 x1 x2 x7 (wrap64 (x9 + 1)))) else (none)) else (none)) else (none)) else (spec_l1Join.l1 k x0 x1 x2 x7 (wrap64 (x9 + 1)))) else (none)) else (none)) else (none)) else (none)) else (some x7)
end
def spec_l1Join.f (k : Nat) (l0 : List (List Int)) (a1 : Int) (a2 : Int) : Option (Int) := spec_l1Join.l0 k l0 a1 a2 (-1) 0
set_option maxHeartbeats 8000000 in
set_option maxRecDepth 100000 in
theorem spec_l1Join.calls (k : Nat) (A0 : Option Addr) (c0 : Nat) (l0 : List (List Int)) (a1 : Int) (a2 : Int) (r : Int) (w : World) (hr0 : Kd.C (Kd.slice 3 (Kd.int .i64)) w A0 l0.length l0) (hc0 : l0.length ≤ c0) (h : spec_l1Join.f k l0 a1 a2 = some r) :
  Calls Try.prog 94 #[.slice A0 l0.length c0, .int .i64 a1, .int .i64 a2] w fun e w' => e = .returned (.int .i64 r) ∧ Drawn0 w w' := by
 have d1:=zqm hr0;have r3:=zqm hc0;clear hr0 hc0;have H:(spec_l1Join.l0 k l0 a1 a2 (-1) 0)=some r:=h;clear h;have H':=zqm H;clear H
 go_enter Try.func94,Try.ntmps94
 go_wp2
 go_loopg [7,8] k (fun kq v7 v8 w'=> ∃(a4:Int) (a0:Int),v7= .int .i64 a4∧v8= .int .i64 a0∧Aside0 (spec_l1Join.l0 kq l0 a1 a2 a4 a0=some r)∧Aside0 (kq≤k)∧Drawn0 w w')
 case atStart=>exact⟨((-1)),(0),zq6,zq6,H',⟨Nat.le_refl _⟩,zq8⟩
 case round=>
  clear H';obtain⟨a4,a0,rfl,rfl,HA,d7,⟨m1,rfl⟩⟩:=hrel
  cases gk with
  |zero=>exact absurd HA.out (by simp [spec_l1Join.l0])
  |succ k1=>
   have H:=HA.out;clear HA;simp only [spec_l1Join.l0] at H
   by_cases c4:a0<(l0.length:Int)
   ·rw [if_pos c4] at H;have p1:decide (a0<(l0.length:Int))=true:=decide_eq_true c4;clear c4
    by_cases c5:0≤a1
    ·rw [if_pos c5] at H;have q9:decide (0≤a1)=true:=decide_eq_true c5;clear c5
     by_cases c6:a1<(l0.length:Int)
     ·rw [if_pos c6] at H;have r0:decide (a1<(l0.length:Int))=true:=decide_eq_true c6;clear c6
      by_cases c7:0≤a0
      ·rw [if_pos c7] at H;have r1:decide (0≤a0)=true:=decide_eq_true c7;clear c7
       by_cases c8:a0<((rd_L2 l0 a1).length:Int)
       ·rw [if_pos c8] at H;have r2:decide (a0<((rd_L2 l0 a1).length:Int))=true:=decide_eq_true c8;clear c8
        by_cases c9:(rd (rd_L2 l0 a1) a0)=1
        ·rw [if_pos c9] at H;have p2:((rd (rd_L2 l0 a1) a0)==1)=true:=beq_iff_eq.mpr c9;have p3:((rd (rd_L2 l0 a1) a0) !=1)=false:=bne_eq_false_iff_eq.mpr c9;clear c9
         by_cases k8:0≤a2
         ·rw [if_pos k8] at H;have p4:decide (0≤a2)=true:=decide_eq_true k8;clear k8
          by_cases k9:a2<(l0.length:Int)
          ·rw [if_pos k9] at H;have p5:decide (a2<(l0.length:Int))=true:=decide_eq_true k9;clear k9
           by_cases l2:a0<((rd_L2 l0 a2).length:Int)
           ·rw [if_pos l2] at H;have p6:decide (a0<((rd_L2 l0 a2).length:Int))=true:=decide_eq_true l2;clear l2
            by_cases i0:(rd (rd_L2 l0 a2) a0)=1
            ·rw [if_pos i0] at H;have n9:((rd (rd_L2 l0 a2) a0)==1)=true:=beq_iff_eq.mpr i0;have o0:((rd (rd_L2 l0 a2) a0) !=1)=false:=bne_eq_false_iff_eq.mpr i0;clear i0
             by_cases j1:a4<0
             ·rw [if_pos j1] at H;have o1:decide (a4<0)=true:=decide_eq_true j1;clear j1;have H':=zqm H;clear H;have b1:0≤(a1:Int):=zqo;have b3:a1<(l0.length:Int):=zqo;obtain⟨d6,g6,g8,e9,f2,a6,a5⟩:=at_L2 d1.out a1 b1 b3
              cases e9
              have b5:=zqm a5;have f1:=zqm a6;clear a5 a6;replace b1:=eq_true b1;replace b3:=eq_true b3;have b2:0≤(a0:Int):=zqo;have b4:a0<((rd_L2 l0 a1).length:Int):=zqo;obtain⟨h7,f0,f3⟩:=Kd.at_int b5.out a0 b2 b4
              cases f0
              replace b2:=eq_true b2;replace b4:=eq_true b4;have b6:0≤(a2:Int):=zqo;have c1:a2<(l0.length:Int):=zqo;obtain⟨e8,h8,i5,f4,h3,a9,a7⟩:=at_L2 d1.out a2 b6 c1;obtain rfl:d6=e8:=(by injection f4);have d4:=zqm a7;have g9:=zqm a9;clear a7 a9;replace b6:=eq_true b6;replace c1:=eq_true c1;have b7:0≤(a0:Int):=zqo;have c2:a0<((rd_L2 l0 a2).length:Int):=zqo;obtain⟨j5,f5,h4⟩:=Kd.at_int d4.out a0 b7 c2
              cases f5
              replace b7:=eq_true b7;replace c2:=eq_true c2
              go_wp2
              go_roundg k1
              (case measure=>have:=d7.out;omega);case rel=>exact⟨(a0),(wrap64 (a0+1)),zq6,zq6,H',⟨by have:=d7.out;omega⟩,zq8⟩
             ·rw [if_neg j1] at H;have o1:decide (a4<0)=false:=decide_eq_false j1;clear j1
              by_cases l3:0≤a4
              ·rw [if_pos l3] at H;have p7:decide (0≤a4)=true:=decide_eq_true l3;clear l3
               by_cases l4:a4<((rd_L2 l0 a0).length:Int)
               ·rw [if_pos l4] at H;have p8:decide (a4<((rd_L2 l0 a0).length:Int))=true:=decide_eq_true l4;clear l4
                by_cases i1:(rd (rd_L2 l0 a0) a4)=1
                ·rw [if_pos i1] at H;have o2:((rd (rd_L2 l0 a0) a4)==1)=true:=beq_iff_eq.mpr i1;have o3:((rd (rd_L2 l0 a0) a4) !=1)=false:=bne_eq_false_iff_eq.mpr i1;clear i1;have H':=zqm H;clear H;have b1:0≤(a1:Int):=zqo;have b3:a1<(l0.length:Int):=zqo;obtain⟨d6,g6,g8,e9,f2,a6,a5⟩:=at_L2 d1.out a1 b1 b3
                 cases e9
                 have b5:=zqm a5;have f1:=zqm a6;clear a5 a6;replace b1:=eq_true b1;replace b3:=eq_true b3;have b2:0≤(a0:Int):=zqo;have b4:a0<((rd_L2 l0 a1).length:Int):=zqo;obtain⟨h7,f0,f3⟩:=Kd.at_int b5.out a0 b2 b4
                 cases f0
                 replace b2:=eq_true b2;replace b4:=eq_true b4;have b6:0≤(a2:Int):=zqo;have c1:a2<(l0.length:Int):=zqo;obtain⟨e8,h8,i5,f4,h3,a9,a7⟩:=at_L2 d1.out a2 b6 c1;obtain rfl:d6=e8:=(by injection f4);have d4:=zqm a7;have g9:=zqm a9;clear a7 a9;replace b6:=eq_true b6;replace c1:=eq_true c1;have b7:0≤(a0:Int):=zqo;have c2:a0<((rd_L2 l0 a2).length:Int):=zqo;obtain⟨j5,f5,h4⟩:=Kd.at_int d4.out a0 b7 c2
                 cases f5
                 replace b7:=eq_true b7;replace c2:=eq_true c2;have f8:0≤(a0:Int):=zqo;have g2:a0<(l0.length:Int):=zqo;obtain⟨j6,n3,n5,k3,m9,e6,e4⟩:=at_L2 d1.out a0 f8 g2;obtain rfl:d6=j6:=(by injection k3);have h1:=zqm e4;have m7:=zqm e6;clear e4 e6;replace f8:=eq_true f8;replace g2:=eq_true g2;have f9:0≤(a4:Int):=zqo;have g3:a4<((rd_L2 l0 a0).length:Int):=zqo;obtain⟨n7,k4,n0⟩:=Kd.at_int h1.out a4 f9 g3
                 cases k4
                 replace f9:=eq_true f9;replace g3:=eq_true g3
                 go_wp2
                 go_roundg k1
                 (case measure=>have:=d7.out;omega);case rel=>exact⟨(a0),(wrap64 (a0+1)),zq6,zq6,H',⟨by have:=d7.out;omega⟩,zq8⟩
                ·rw [if_neg i1] at H;have o2:((rd (rd_L2 l0 a0) a4)==1)=false:=beq_eq_false_iff_ne.mpr i1;have o3:((rd (rd_L2 l0 a0) a4) !=1)=true:=bne_iff_ne.mpr i1;have H':=zqm H;clear H;have b1:0≤(a1:Int):=zqo;have b3:a1<(l0.length:Int):=zqo;obtain⟨d6,g6,g8,e9,f2,a6,a5⟩:=at_L2 d1.out a1 b1 b3
                 cases e9
                 have b5:=zqm a5;have f1:=zqm a6;clear a5 a6;replace b1:=eq_true b1;replace b3:=eq_true b3;have b2:0≤(a0:Int):=zqo;have b4:a0<((rd_L2 l0 a1).length:Int):=zqo;obtain⟨h7,f0,f3⟩:=Kd.at_int b5.out a0 b2 b4
                 cases f0
                 replace b2:=eq_true b2;replace b4:=eq_true b4;have b6:0≤(a2:Int):=zqo;have c1:a2<(l0.length:Int):=zqo;obtain⟨e8,h8,i5,f4,h3,a9,a7⟩:=at_L2 d1.out a2 b6 c1;obtain rfl:d6=e8:=(by injection f4);have d4:=zqm a7;have g9:=zqm a9;clear a7 a9;replace b6:=eq_true b6;replace c1:=eq_true c1;have b7:0≤(a0:Int):=zqo;have c2:a0<((rd_L2 l0 a2).length:Int):=zqo;obtain⟨j5,f5,h4⟩:=Kd.at_int d4.out a0 b7 c2
                 cases f5
                 replace b7:=eq_true b7;replace c2:=eq_true c2;have f8:0≤(a0:Int):=zqo;have g2:a0<(l0.length:Int):=zqo;obtain⟨j6,n3,n5,k3,m9,e6,e4⟩:=at_L2 d1.out a0 f8 g2;obtain rfl:d6=j6:=(by injection k3);have h1:=zqm e4;have m7:=zqm e6;clear e4 e6;replace f8:=eq_true f8;replace g2:=eq_true g2;have f9:0≤(a4:Int):=zqo;have g3:a4<((rd_L2 l0 a0).length:Int):=zqo;obtain⟨n7,k4,n0⟩:=Kd.at_int h1.out a4 f9 g3
                 cases k4
                 replace f9:=eq_true f9;replace g3:=eq_true g3
                 go_wp2
                 go_roundg k1
                 (case measure=>have:=d7.out;omega);case rel=>exact⟨(a4),(wrap64 (a0+1)),zq6,zq6,H',⟨by have:=d7.out;omega⟩,zq8⟩
               ·rw [if_neg l4] at H;exact absurd H (by simp)
              ·rw [if_neg l3] at H;exact absurd H (by simp)
            ·rw [if_neg i0] at H;have n9:((rd (rd_L2 l0 a2) a0)==1)=false:=beq_eq_false_iff_ne.mpr i0;have o0:((rd (rd_L2 l0 a2) a0) !=1)=true:=bne_iff_ne.mpr i0;have H':=zqm H;clear H;have b1:0≤(a1:Int):=zqo;have b3:a1<(l0.length:Int):=zqo;obtain⟨d6,g6,g8,e9,f2,a6,a5⟩:=at_L2 d1.out a1 b1 b3
             cases e9
             have b5:=zqm a5;have f1:=zqm a6;clear a5 a6;replace b1:=eq_true b1;replace b3:=eq_true b3;have b2:0≤(a0:Int):=zqo;have b4:a0<((rd_L2 l0 a1).length:Int):=zqo;obtain⟨h7,f0,f3⟩:=Kd.at_int b5.out a0 b2 b4
             cases f0
             replace b2:=eq_true b2;replace b4:=eq_true b4;have b6:0≤(a2:Int):=zqo;have c1:a2<(l0.length:Int):=zqo;obtain⟨e8,h8,i5,f4,h3,a9,a7⟩:=at_L2 d1.out a2 b6 c1;obtain rfl:d6=e8:=(by injection f4);have d4:=zqm a7;have g9:=zqm a9;clear a7 a9;replace b6:=eq_true b6;replace c1:=eq_true c1;have b7:0≤(a0:Int):=zqo;have c2:a0<((rd_L2 l0 a2).length:Int):=zqo;obtain⟨j5,f5,h4⟩:=Kd.at_int d4.out a0 b7 c2
             cases f5
             replace b7:=eq_true b7;replace c2:=eq_true c2
             go_wp2
             go_roundg k1
             (case measure=>have:=d7.out;omega);case rel=>exact⟨(a4),(wrap64 (a0+1)),zq6,zq6,H',⟨by have:=d7.out;omega⟩,zq8⟩
           ·rw [if_neg l2] at H;exact absurd H (by simp)
          ·rw [if_neg k9] at H;exact absurd H (by simp)
         ·rw [if_neg k8] at H;exact absurd H (by simp)
        ·rw [if_neg c9] at H;have p2:((rd (rd_L2 l0 a1) a0)==1)=false:=beq_eq_false_iff_ne.mpr c9;have p3:((rd (rd_L2 l0 a1) a0) !=1)=true:=bne_iff_ne.mpr c9;have H':=zqm H;clear H;have b1:0≤(a1:Int):=zqo;have b3:a1<(l0.length:Int):=zqo;obtain⟨d6,g6,g8,e9,f2,a6,a5⟩:=at_L2 d1.out a1 b1 b3
         cases e9
         have b5:=zqm a5;have f1:=zqm a6;clear a5 a6;replace b1:=eq_true b1;replace b3:=eq_true b3;have b2:0≤(a0:Int):=zqo;have b4:a0<((rd_L2 l0 a1).length:Int):=zqo;obtain⟨h7,f0,f3⟩:=Kd.at_int b5.out a0 b2 b4
         cases f0
         replace b2:=eq_true b2;replace b4:=eq_true b4
         go_wp2
         go_roundg k1
         (case measure=>have:=d7.out;omega);case rel=>exact⟨(a4),(wrap64 (a0+1)),zq6,zq6,H',⟨by have:=d7.out;omega⟩,zq8⟩
       ·rw [if_neg c8] at H;exact absurd H (by simp)
      ·rw [if_neg c7] at H;exact absurd H (by simp)
     ·rw [if_neg c6] at H;exact absurd H (by simp)
    ·rw [if_neg c5] at H;exact absurd H (by simp)
   ·rw [if_neg c4] at H;have p1:decide (a0<(l0.length:Int))=false:=decide_eq_false c4;clear c4;have H':=zqm H;clear H
    go_wp2
    go_loopg [9] k1 (fun kq v9 w'=> ∃(a3:Int),v9= .int .i64 a3∧Aside0 (spec_l1Join.l1 kq l0 a1 a2 a4 a3=some r)∧Aside0 (kq≤k1)∧Drawn0 w w')
    case atStart=>exact⟨(0),zq6,H',⟨Nat.le_refl _⟩,zq8⟩
    case round=>
     clear H';obtain⟨a3,rfl,HA,j0,⟨m2,rfl⟩⟩:=hrel
     cases gk with
     |zero=>exact absurd HA.out (by simp [spec_l1Join.l1])
     |succ k2=>
      have H:=HA.out;clear HA;simp only [spec_l1Join.l1] at H
      by_cases j2:a3<(l0.length:Int)
      ·rw [if_pos j2] at H;have o4:decide (a3<(l0.length:Int))=true:=decide_eq_true j2;clear j2
       by_cases l5:0≤a1
       ·rw [if_pos l5] at H;have p9:decide (0≤a1)=true:=decide_eq_true l5;clear l5
        by_cases l6:a1<(l0.length:Int)
        ·rw [if_pos l6] at H;have q0:decide (a1<(l0.length:Int))=true:=decide_eq_true l6;clear l6
         by_cases l7:0≤a3
         ·rw [if_pos l7] at H;have q1:decide (0≤a3)=true:=decide_eq_true l7;clear l7
          by_cases l8:a3<((rd_L2 l0 a1).length:Int)
          ·rw [if_pos l8] at H;have q2:decide (a3<((rd_L2 l0 a1).length:Int))=true:=decide_eq_true l8;clear l8
           by_cases i2:(rd (rd_L2 l0 a1) a3)=1
           ·rw [if_pos i2] at H;have o5:((rd (rd_L2 l0 a1) a3)==1)=true:=beq_iff_eq.mpr i2;have o6:((rd (rd_L2 l0 a1) a3) !=1)=false:=bne_eq_false_iff_eq.mpr i2;clear i2
            by_cases l9:0≤a2
            ·rw [if_pos l9] at H;have q3:decide (0≤a2)=true:=decide_eq_true l9;clear l9
             by_cases m0:a2<(l0.length:Int)
             ·rw [if_pos m0] at H;have q4:decide (a2<(l0.length:Int))=true:=decide_eq_true m0;clear m0
              by_cases m3:a3<((rd_L2 l0 a2).length:Int)
              ·rw [if_pos m3] at H;have q5:decide (a3<((rd_L2 l0 a2).length:Int))=true:=decide_eq_true m3;clear m3
               by_cases i3:(rd (rd_L2 l0 a2) a3)=1
               ·rw [if_pos i3] at H;have o7:((rd (rd_L2 l0 a2) a3)==1)=true:=beq_iff_eq.mpr i3;have o8:((rd (rd_L2 l0 a2) a3) !=1)=false:=bne_eq_false_iff_eq.mpr i3;clear i3
                by_cases m4:0≤a4
                ·rw [if_pos m4] at H;have q6:decide (0≤a4)=true:=decide_eq_true m4;clear m4
                 by_cases m5:a4<(l0.length:Int)
                 ·rw [if_pos m5] at H;have q7:decide (a4<(l0.length:Int))=true:=decide_eq_true m5;clear m5
                  by_cases m6:a3<((rd_L2 l0 a4).length:Int)
                  ·rw [if_pos m6] at H;have q8:decide (a3<((rd_L2 l0 a4).length:Int))=true:=decide_eq_true m6;clear m6
                   by_cases i4:(rd (rd_L2 l0 a4) a3)=0
                   ·rw [if_pos i4] at H;have o9:((rd (rd_L2 l0 a4) a3)==0)=true:=beq_iff_eq.mpr i4;have p0:((rd (rd_L2 l0 a4) a3) !=0)=false:=bne_eq_false_iff_eq.mpr i4;clear i4;obtain rfl:=Option.some.inj H;have b8:0≤(a1:Int):=zqo;have c3:a1<(l0.length:Int):=zqo;obtain⟨e2,h9,i6,f6,h5,b0,a8⟩:=at_L2 d1.out a1 b8 c3
                    cases f6
                    have d5:=zqm a8;have h0:=zqm b0;clear a8 b0;replace b8:=eq_true b8;replace c3:=eq_true c3;have b9:0≤(a3:Int):=zqo;have d0:a3<((rd_L2 l0 a1).length:Int):=zqo;obtain⟨j7,f7,h6⟩:=Kd.at_int d5.out a3 b9 d0
                    cases f7
                    replace b9:=eq_true b9;replace d0:=eq_true d0;have d8:0≤(a2:Int):=zqo;have e0:a2<(l0.length:Int):=zqo;obtain⟨g7,j9,k0,i7,j3,d3,d2⟩:=at_L2 d1.out a2 d8 e0;obtain rfl:e2=g7:=(by injection i7);have e3:=zqm d2;have i9:=zqm d3;clear d2 d3;replace d8:=eq_true d8;replace e0:=eq_true e0;have d9:0≤(a3:Int):=zqo;have e1:a3<((rd_L2 l0 a2).length:Int):=zqo;obtain⟨k7,i8,j4⟩:=Kd.at_int e3.out a3 d9 e1
                    cases i8
                    replace d9:=eq_true d9;replace e1:=eq_true e1;have g0:0≤(a4:Int):=zqo;have g4:a4<(l0.length:Int):=zqo;obtain⟨j8,n4,n6,k5,n1,e7,e5⟩:=at_L2 d1.out a4 g0 g4;obtain rfl:e2=j8:=(by injection k5);have h2:=zqm e5;have m8:=zqm e7;clear e5 e7;replace g0:=eq_true g0;replace g4:=eq_true g4;have g1:0≤(a3:Int):=zqo;have g5:a3<((rd_L2 l0 a4).length:Int):=zqo;obtain⟨n8,k6,n2⟩:=Kd.at_int h2.out a3 g1 g5
                    cases k6
                    replace g1:=eq_true g1;replace g5:=eq_true g5
                    go_wp2
                    go_ret
                    exact⟨zq6,zq8⟩
                   ·rw [if_neg i4] at H;have o9:((rd (rd_L2 l0 a4) a3)==0)=false:=beq_eq_false_iff_ne.mpr i4;have p0:((rd (rd_L2 l0 a4) a3) !=0)=true:=bne_iff_ne.mpr i4;have H':=zqm H;clear H;have b8:0≤(a1:Int):=zqo;have c3:a1<(l0.length:Int):=zqo;obtain⟨e2,h9,i6,f6,h5,b0,a8⟩:=at_L2 d1.out a1 b8 c3
                    cases f6
                    have d5:=zqm a8;have h0:=zqm b0;clear a8 b0;replace b8:=eq_true b8;replace c3:=eq_true c3;have b9:0≤(a3:Int):=zqo;have d0:a3<((rd_L2 l0 a1).length:Int):=zqo;obtain⟨j7,f7,h6⟩:=Kd.at_int d5.out a3 b9 d0
                    cases f7
                    replace b9:=eq_true b9;replace d0:=eq_true d0;have d8:0≤(a2:Int):=zqo;have e0:a2<(l0.length:Int):=zqo;obtain⟨g7,j9,k0,i7,j3,d3,d2⟩:=at_L2 d1.out a2 d8 e0;obtain rfl:e2=g7:=(by injection i7);have e3:=zqm d2;have i9:=zqm d3;clear d2 d3;replace d8:=eq_true d8;replace e0:=eq_true e0;have d9:0≤(a3:Int):=zqo;have e1:a3<((rd_L2 l0 a2).length:Int):=zqo;obtain⟨k7,i8,j4⟩:=Kd.at_int e3.out a3 d9 e1
                    cases i8
                    replace d9:=eq_true d9;replace e1:=eq_true e1;have g0:0≤(a4:Int):=zqo;have g4:a4<(l0.length:Int):=zqo;obtain⟨j8,n4,n6,k5,n1,e7,e5⟩:=at_L2 d1.out a4 g0 g4;obtain rfl:e2=j8:=(by injection k5);have h2:=zqm e5;have m8:=zqm e7;clear e5 e7;replace g0:=eq_true g0;replace g4:=eq_true g4;have g1:0≤(a3:Int):=zqo;have g5:a3<((rd_L2 l0 a4).length:Int):=zqo;obtain⟨n8,k6,n2⟩:=Kd.at_int h2.out a3 g1 g5
                    cases k6
                    replace g1:=eq_true g1;replace g5:=eq_true g5
                    go_wp2
                    go_roundg k2
                    (case measure=> exact zq161);case rel=>exact⟨(wrap64 (a3+1)),zq6,H',⟨zq161⟩,zq8⟩
                  ·rw [if_neg m6] at H;exact absurd H (by simp)
                 ·rw [if_neg m5] at H;exact absurd H (by simp)
                ·rw [if_neg m4] at H;exact absurd H (by simp)
               ·rw [if_neg i3] at H;have o7:((rd (rd_L2 l0 a2) a3)==1)=false:=beq_eq_false_iff_ne.mpr i3;have o8:((rd (rd_L2 l0 a2) a3) !=1)=true:=bne_iff_ne.mpr i3;have H':=zqm H;clear H;have b8:0≤(a1:Int):=zqo;have c3:a1<(l0.length:Int):=zqo;obtain⟨e2,h9,i6,f6,h5,b0,a8⟩:=at_L2 d1.out a1 b8 c3
                cases f6
                have d5:=zqm a8;have h0:=zqm b0;clear a8 b0;replace b8:=eq_true b8;replace c3:=eq_true c3;have b9:0≤(a3:Int):=zqo;have d0:a3<((rd_L2 l0 a1).length:Int):=zqo;obtain⟨j7,f7,h6⟩:=Kd.at_int d5.out a3 b9 d0
                cases f7
                replace b9:=eq_true b9;replace d0:=eq_true d0;have d8:0≤(a2:Int):=zqo;have e0:a2<(l0.length:Int):=zqo;obtain⟨g7,j9,k0,i7,j3,d3,d2⟩:=at_L2 d1.out a2 d8 e0;obtain rfl:e2=g7:=(by injection i7);have e3:=zqm d2;have i9:=zqm d3;clear d2 d3;replace d8:=eq_true d8;replace e0:=eq_true e0;have d9:0≤(a3:Int):=zqo;have e1:a3<((rd_L2 l0 a2).length:Int):=zqo;obtain⟨k7,i8,j4⟩:=Kd.at_int e3.out a3 d9 e1
                cases i8
                replace d9:=eq_true d9;replace e1:=eq_true e1
                go_wp2
                go_roundg k2
                (case measure=> exact zq161);case rel=>exact⟨(wrap64 (a3+1)),zq6,H',⟨zq161⟩,zq8⟩
              ·rw [if_neg m3] at H;exact absurd H (by simp)
             ·rw [if_neg m0] at H;exact absurd H (by simp)
            ·rw [if_neg l9] at H;exact absurd H (by simp)
           ·rw [if_neg i2] at H;have o5:((rd (rd_L2 l0 a1) a3)==1)=false:=beq_eq_false_iff_ne.mpr i2;have o6:((rd (rd_L2 l0 a1) a3) !=1)=true:=bne_iff_ne.mpr i2;have H':=zqm H;clear H;have b8:0≤(a1:Int):=zqo;have c3:a1<(l0.length:Int):=zqo;obtain⟨e2,h9,i6,f6,h5,b0,a8⟩:=at_L2 d1.out a1 b8 c3
            cases f6
            have d5:=zqm a8;have h0:=zqm b0;clear a8 b0;replace b8:=eq_true b8;replace c3:=eq_true c3;have b9:0≤(a3:Int):=zqo;have d0:a3<((rd_L2 l0 a1).length:Int):=zqo;obtain⟨j7,f7,h6⟩:=Kd.at_int d5.out a3 b9 d0
            cases f7
            replace b9:=eq_true b9;replace d0:=eq_true d0
            go_wp2
            go_roundg k2
            (case measure=> exact zq161);case rel=>exact⟨(wrap64 (a3+1)),zq6,H',⟨zq161⟩,zq8⟩
          ·rw [if_neg l8] at H;exact absurd H (by simp)
         ·rw [if_neg l7] at H;exact absurd H (by simp)
        ·rw [if_neg l6] at H;exact absurd H (by simp)
       ·rw [if_neg l5] at H;exact absurd H (by simp)
      ·rw [if_neg j2] at H;have o4:decide (a3<(l0.length:Int))=false:=decide_eq_false j2;clear j2;obtain rfl:=Option.some.inj H
       go_wp2
       go_ret
       exact⟨zq6,zq8⟩
end
section
attribute [local go_sem] max2_int min2_int max_two min_two max_three min_three max_four min_four
def spec_l1In.f (a0 : Int) (a1 : Int) (a2 : Int) : Option (Bool) := if a0 ≥ a1 then (some (decide (a0 ≤ a2))) else (some false)
set_option maxHeartbeats 8000000 in
set_option maxRecDepth 100000 in
theorem spec_l1In.calls (a0 : Int) (a1 : Int) (a2 : Int) (r : Bool) (w : World) (h : spec_l1In.f a0 a1 a2 = some r) :
  Calls Try.prog 78 #[.int .i64 a0, .int .i64 a1, .int .i64 a2] w fun e w' => e = .returned (.bool r) ∧ Drawn0 w w' := by
 have H : (if a0 ≥ a1 then (some (decide (a0 ≤ a2))) else (some false)) = some r := h
 clear h
 by_cases c4 : a0 ≥ a1
 ·rw [if_pos c4] at H
  have c4b0 : decide (a1 ≤ a0) = true := decide_eq_true c4
  clear c4
  obtain rfl := Option.some.inj H
  go_enter Try.func78, Try.ntmps78
  go_wp2
  go_ret
  exact ⟨zq105, by repeat (first | exact Drawn0.refl _ | apply Drawn0.step)⟩
 ·rw [if_neg c4] at H
  have c4b0 : decide (a1 ≤ a0) = false := decide_eq_false c4
  clear c4
  obtain rfl := Option.some.inj H
  go_enter Try.func78, Try.ntmps78
  go_wp2
  go_ret
  exact ⟨zq105, by repeat (first | exact Drawn0.refl _ | apply Drawn0.step)⟩
end
section
attribute [local go_sem] max2_int min2_int max_two min_two max_three min_three max_four min_four
mutual
def spec_OrderOk.l0 : Nat → List (List Int) → Int → Int → Option (Bool)
 | 0, _, _, _ => none
 | k + 1, x0, x3, x4 => if x4 < x3 then (if 0 ≤ x4 then (if x4 < (x0.length : Int) then (if ((rd_L2 x0 x4).length : Int) = x3 then (spec_OrderOk.l1 k x0 x3 x4 0) else (some false)) else (none)) else (none)) else (spec_OrderOk.l2 k x0 x3 0)
def spec_OrderOk.l1 : Nat → List (List Int) → Int → Int → Int → Option (Bool)
 | 0, _, _, _, _ => none
 | k + 1, x0, x3, x4, x5 => if x5 < x3 then (if 0 ≤ x4 then (if x4 < (x0.length : Int) then (if 0 ≤ x5 then (if x5 < ((rd_L2 x0 x4).length : Int) then ((spec_l1In.f (rd (rd_L2 x0 x4) x5) 0 1).bind fun t471 => (if t471 = true then (spec_OrderOk.l1 k x0 x3 x4 (wrap64 (x5 + 1))) else (some false))) else (none)) else (none)) else (none)) else (none)) else (spec_OrderOk.l0 k x0 x3 (wrap64 (x4 + 1)))
def spec_OrderOk.l2 : Nat → List (List Int) → Int → Int → Option (Bool)
 | 0, _, _, _ => none
 | k + 1, x0, x3, x6 => if x6 < x3 then (spec_OrderOk.l3 k x0 x3 x6 0) else (some true)
def spec_OrderOk.l3 : Nat → List (List Int) → Int → Int → Int → Option (Bool)
 | 0, _, _, _, _ => none
 | k + 1, x0, x3, x6, x7 => if x7 < x3 then (if x6 = x7 then (if 0 ≤ x6 then (if x6 < (x0.length : Int) then (if 0 ≤ x7 then (if x7 < ((rd_L2 x0 x6).length : Int) then (if (rd (rd_L2 x0 x6) x7) = 0 then (spec_OrderOk.j4 k x0 x3 x6 x7 true) else (spec_OrderOk.j4 k x0 x3 x6 x7 false)) else (none)) else (none)) else (none)) else (none)) else (if 0 ≤ x6 then (if x6 < (x0.length : Int) then (if 0 ≤ x7 then (if x7 < ((rd_L2 x0 x6).length : Int) then (if (rd (rd_L2 x0 x6) x7) = 1 then (if x7 < (x0.length : Int) then (if x6 < ((rd_L2 x0 x7).length : Int) then (spec_OrderOk.j4 k x0 x3 x6 x7 ((rd (rd_L2 x0 x7) x6) == 1)) else (none)) else (none)) else (spec_OrderOk.j4 k x0 x3 x6 x7 false)) else (none)) else (none)) else (none)) else (none))) else (spec_OrderOk.l2 k x0 x3 (wrap64 (x6 + 1)))
def spec_OrderOk.j4 : Nat → List (List Int) → Int → Int → Int → Bool → Option (Bool)
 | 0, _, _, _, _, _ => none
 | k + 1, x0, x3, x6, x7, x87 => if x87 = true then (some false) else (spec_OrderOk.l4 k x0 x3 x6 x7 0)
def spec_OrderOk.l4 : Nat → List (List Int) → Int → Int → Int → Int → Option (Bool)
 | 0, _, _, _, _, _ => none
 | k + 1, x0, x3, x6, x7, x8 => if x8 < x3 then (if 0 ≤ x6 then (if x6 < (x0.length : Int) then (if 0 ≤ x7 then (if x7 < ((rd_L2 x0 x6).length : Int) then (if (rd (rd_L2 x0 x6) x7) = 1 then (if x7 < (x0.length : Int) then (if 0 ≤ x8 then (if x8 < ((rd_L2 x0 x7).length : Int) then (if (rd (rd_L2 x0 x7) x8) = 1 then (if x8 < ((rd_L2 x0 x6).length : Int) then (if (rd (rd_L2 x0 x6) x8) = 0 then (some false) else (spec_OrderOk.l4 k x0 x3 x6 x7 (wrap64 (x8 + 1)))) else (none)) else (spec_OrderOk.l4 k x0 x3 x6 x7 (wrap64 (x8 + 1)))) else (none)) else (none)) else (none)) else (spec_OrderOk.l4 k x0 x3 x6 x7 (wrap64 (x8 + 1)))) else (none)) else (none)) else (none)) else (none)) else (spec_OrderOk.l3 k x0 x3 x6 (wrap64 (x7 + 1)))
end
def spec_OrderOk.f (k : Nat) (l0 : List (List Int)) : Option (Bool) := (spec_l1In.f (l0.length : Int) 1 12).bind fun t467 => (if t467 = true then (spec_OrderOk.l0 k l0 (l0.length : Int) 0) else (some false))
set_option maxHeartbeats 8000000 in
set_option maxRecDepth 100000 in
theorem spec_OrderOk.calls (k : Nat) (A0 : Option Addr) (c0 : Nat) (l0 : List (List Int)) (r : Bool) (w : World) (hr0 : Kd.C (Kd.slice 3 (Kd.int .i64)) w A0 l0.length l0) (hc0 : l0.length ≤ c0) (h : spec_OrderOk.f k l0 = some r) :
  Calls Try.prog 136 #[.slice A0 l0.length c0] w fun e w' => e = .returned (.bool r) ∧ Drawn0 w w' := by
 have b5:=zqm hr0;have z4:=zqm hc0;clear hr0 hc0;have H:((spec_l1In.f (l0.length:Int) 1 12).bind fun r5=>(if r5=true then(spec_OrderOk.l0 k l0 (l0.length:Int) 0) else(some false)))=some r:=h;clear h;replace H:=Option.bind_eq_some_iff.mp H;obtain⟨r5,x7,H⟩:=H;(try dsimp only at H);have A2:=zqm x7;clear x7
 by_cases c3:r5=true
 ·subst c3;rw [if_pos rfl] at H;have H':=zqm H;clear H
  go_enter Try.func136,Try.ntmps136
  go_wp2_with (first|((with_reducible refine gate_callee (f:=78) rfl ?_);refine goesL_ (some 12) rfl rfl Try.func78 zqk rfl #[.int .i64 (l0.length:Int),.int .i64 1,.int .i64 12] rfl zq5 ?_;(with_reducible refine(spec_l1In.calls (l0.length:Int) 1 12 true _ A2.out).mono ?_);rintro e w' ⟨rfl,⟨nd,rfl⟩⟩;refine⟨_,rfl,?_⟩))
  go_loopg [4] k (fun kq v4 w'=> ∃(a2:Int),v4= .int .i64 a2∧Aside0 (spec_OrderOk.l0 kq l0 (l0.length:Int) a2=some r)∧Aside0 (kq≤k)∧Drawn0 w w')
  case atStart=>exact⟨(0),zq6,H',⟨Nat.le_refl _⟩,zq8⟩
  case round=>
   clear H';(try clear c1);(try clear p2);(try clear c3);obtain⟨a2,rfl,HA,b4,⟨m1,rfl⟩⟩:=hrel
   cases gk with
   |zero=>exact absurd HA.out (by simp [spec_OrderOk.l0])
   |succ k1=>
    have H:=HA.out;clear HA;simp only [spec_OrderOk.l0] at H
    by_cases c4:a2<(l0.length:Int)
    ·rw [if_pos c4] at H;have i1:decide (a2<(l0.length:Int))=true:=decide_eq_true c4;clear c4
     by_cases c5:0≤a2
     ·rw [if_pos c5] at H;have l6:decide (0≤a2)=true:=decide_eq_true c5;clear c5
      by_cases c6:a2<(l0.length:Int)
      ·rw [if_pos c6] at H;have l7:decide (a2<(l0.length:Int))=true:=decide_eq_true c6;clear c6
       by_cases c7:((rd_L2 l0 a2).length:Int)=(l0.length:Int)
       ·rw [if_pos c7] at H;have i2:(((rd_L2 l0 a2).length:Int)==(l0.length:Int))=true:=beq_iff_eq.mpr c7;have i3:(((rd_L2 l0 a2).length:Int) !=(l0.length:Int))=false:=bne_eq_false_iff_eq.mpr c7;(have i4:((rd_L2 l0 a2).length==l0.length)=true:=by first|simpa using c7|(simp at c7 ⊢;omega));clear c7;have H':=zqm H;clear H;have b7:0≤(a2:Int):=zqo;have b8:a2<(l0.length:Int):=zqo;obtain⟨o7,u6,v2,q6,b9,e6,e1⟩:=at_L2 b5.out a2 b7 b8
        cases q6
        have u2:=zqm e1;have t7:=zqm e6;clear e1 e6;replace b7:=eq_true b7;replace b8:=eq_true b8
        go_wp2
        go_loopg [5] k1 (fun kq v5 w'=> ∃(a4:Int),v5= .int .i64 a4∧Aside0 (spec_OrderOk.l1 kq l0 (l0.length:Int) a2 a4=some r)∧Aside0 (kq≤k1)∧Drawn0 w w')
        case atStart=>exact⟨(0),zq6,H',⟨Nat.le_refl _⟩,zq8⟩
        case round=>
         clear H';(try clear c1);(try clear p2);(try clear c3);(try clear c4);(try clear i1);(try clear p4);(try clear q4);(try clear t6);(try clear c5);(try clear l6);(try clear c6);(try clear l7);(try clear c7);(try clear i2);(try clear i3);(try clear i4);(try clear b9);(try clear p2);(try clear b7);(try clear b8);obtain⟨a4,rfl,HA,b3,⟨m2,rfl⟩⟩:=hrel
         cases gk with
         |zero=>exact absurd HA.out (by simp [spec_OrderOk.l1])
         |succ k2=>
          have H:=HA.out;clear HA;simp only [spec_OrderOk.l1] at H
          by_cases c8:a4<(l0.length:Int)
          ·rw [if_pos c8] at H;have l8:decide (a4<(l0.length:Int))=true:=decide_eq_true c8;clear c8
           by_cases c9:0≤a2
           ·rw [if_pos c9] at H;have q0:decide (0≤a2)=true:=decide_eq_true c9;clear c9
            by_cases j2:a2<(l0.length:Int)
            ·rw [if_pos j2] at H;have j8:decide (a2<(l0.length:Int))=true:=decide_eq_true j2;clear j2
             by_cases j3:0≤a4
             ·rw [if_pos j3] at H;have j9:decide (0≤a4)=true:=decide_eq_true j3;clear j3
              by_cases j5:a4<((rd_L2 l0 a2).length:Int)
              ·rw [if_pos j5] at H;have k0:decide (a4<((rd_L2 l0 a2).length:Int))=true:=decide_eq_true j5;clear j5;replace H:=Option.bind_eq_some_iff.mp H;obtain⟨y0,u5,H⟩:=H;(try dsimp only at H);have x6:=zqm u5;clear u5
               by_cases j6:y0=true
               ·subst j6;rw [if_pos rfl] at H;have H':=zqm H;clear H;have d0:0≤(a2:Int):=zqo;have d4:a2<(l0.length:Int):=zqo;obtain⟨o8,u7,v3,q7,f1,e7,e2⟩:=at_L2 b5.out a2 d0 d4;obtain rfl:o7=o8:=(by injection q7);have h7:=zqm e2;have t8:=zqm e7;clear e2 e7;replace d0:=eq_true d0;replace d4:=eq_true d4;have d1:0≤(a4:Int):=zqo;have d5:a4<((rd_L2 l0 a2).length:Int):=zqo;obtain⟨w3,q8,f2⟩:=Kd.at_int h7.out a4 d1 d5
                cases q8
                replace d1:=eq_true d1;replace d5:=eq_true d5
                go_wp2_with (first|((with_reducible refine gate_callee (f:=78) rfl ?_);refine goesL_ (some 38) rfl rfl Try.func78 zqk rfl #[.int .i64 (rd (rd_L2 l0 a2) a4),.int .i64 0,.int .i64 1] rfl zq5 ?_;(with_reducible refine(spec_l1In.calls (rd (rd_L2 l0 a2) a4) 0 1 true _ x6.out).mono ?_);rintro e w' ⟨rfl,⟨nd,rfl⟩⟩;refine⟨_,rfl,?_⟩))
                go_roundg k2
                (case measure=> exact zq196);case rel=>exact⟨(wrap64 (a4+1)),zq6,H',⟨zq196⟩,zq8⟩
               ·replace j6:=Bool.eq_false_iff.mpr j6;subst j6;rw [if_neg (show¬(false=true) by decide)] at H;obtain rfl:=Option.some.inj H;have d0:0≤(a2:Int):=zqo;have d4:a2<(l0.length:Int):=zqo;obtain⟨o8,u7,v3,q7,f1,e7,e2⟩:=at_L2 b5.out a2 d0 d4;obtain rfl:o7=o8:=(by injection q7);have h7:=zqm e2;have t8:=zqm e7;clear e2 e7;replace d0:=eq_true d0;replace d4:=eq_true d4;have d1:0≤(a4:Int):=zqo;have d5:a4<((rd_L2 l0 a2).length:Int):=zqo;obtain⟨w3,q8,f2⟩:=Kd.at_int h7.out a4 d1 d5
                cases q8
                replace d1:=eq_true d1;replace d5:=eq_true d5
                go_wp2_with (first|((with_reducible refine gate_callee (f:=78) rfl ?_);refine goesL_ (some 38) rfl rfl Try.func78 zqk rfl #[.int .i64 (rd (rd_L2 l0 a2) a4),.int .i64 0,.int .i64 1] rfl zq5 ?_;(with_reducible refine(spec_l1In.calls (rd (rd_L2 l0 a2) a4) 0 1 false _ x6.out).mono ?_);rintro e w' ⟨rfl,⟨nd,rfl⟩⟩;refine⟨_,rfl,?_⟩))
                go_ret
                exact⟨zq6,zq8⟩
              ·rw [if_neg j5] at H;exact absurd H (by simp)
             ·rw [if_neg j3] at H;exact absurd H (by simp)
            ·rw [if_neg j2] at H;exact absurd H (by simp)
           ·rw [if_neg c9] at H;exact absurd H (by simp)
          ·rw [if_neg c8] at H;have l8:decide (a4<(l0.length:Int))=false:=decide_eq_false c8;clear c8;have H':=zqm H;clear H
           go_wp2
           go_roundg k2
           (case measure=> exact zq196);case rel=>exact⟨(wrap64 (a2+1)),zq6,H',⟨zq196⟩,zq8⟩
       ·rw [if_neg c7] at H;have i2:(((rd_L2 l0 a2).length:Int)==(l0.length:Int))=false:=beq_eq_false_iff_ne.mpr c7;have i3:(((rd_L2 l0 a2).length:Int) !=(l0.length:Int))=true:=bne_iff_ne.mpr c7;(have i4:((rd_L2 l0 a2).length==l0.length)=false:=by first|simpa using c7|(simp at c7 ⊢;omega));obtain rfl:=Option.some.inj H;have b7:0≤(a2:Int):=zqo;have b8:a2<(l0.length:Int):=zqo;obtain⟨o7,u6,v2,q6,b9,e6,e1⟩:=at_L2 b5.out a2 b7 b8
        cases q6
        have u2:=zqm e1;have t7:=zqm e6;clear e1 e6;replace b7:=eq_true b7;replace b8:=eq_true b8
        go_wp2
        go_ret
        exact⟨zq6,zq8⟩
      ·rw [if_neg c6] at H;exact absurd H (by simp)
     ·rw [if_neg c5] at H;exact absurd H (by simp)
    ·rw [if_neg c4] at H;have i1:decide (a2<(l0.length:Int))=false:=decide_eq_false c4;clear c4;have H':=zqm H;clear H
     go_wp2
     go_loopg [6] k1 (fun kq v6 w'=> ∃(a0:Int),v6= .int .i64 a0∧Aside0 (spec_OrderOk.l2 kq l0 (l0.length:Int) a0=some r)∧Aside0 (kq≤k1)∧Drawn0 w w')
     case atStart=>exact⟨(0),zq6,H',⟨Nat.le_refl _⟩,zq8⟩
     case round=>
      clear H';(try clear c1);(try clear p2);(try clear c3);(try clear c4);(try clear i1);(try clear p4);(try clear q4);(try clear t6);(try clear c5);(try clear l6);(try clear c6);(try clear l7);(try clear p6);(try clear c7);(try clear i2);(try clear i3);(try clear i4);(try clear c8);(try clear l8);(try clear c9);(try clear q0);(try clear j2);(try clear j8);(try clear j3);(try clear j9);(try clear j5);(try clear k0);(try clear v1);(try clear j6);(try clear b9);(try clear f1);(try clear f2);(try clear p2);(try clear p4);(try clear b7);(try clear d0);(try clear d1);(try clear q4);(try clear b8);(try clear d4);(try clear d5);obtain⟨a0,rfl,HA,b3,⟨m2,rfl⟩⟩:=hrel
      cases gk with
      |zero=>exact absurd HA.out (by simp [spec_OrderOk.l2])
      |succ k2=>
       have H:=HA.out;clear HA;simp only [spec_OrderOk.l2] at H
       by_cases h1:a0<(l0.length:Int)
       ·rw [if_pos h1] at H;have k4:decide (a0<(l0.length:Int))=true:=decide_eq_true h1;clear h1;have H':=zqm H;clear H
        go_wp2
        go_loopg [7] k2 (fun kq v7 w'=> ∃(a1:Int),v7= .int .i64 a1∧Aside0 (spec_OrderOk.l3 kq l0 (l0.length:Int) a0 a1=some r)∧Aside0 (kq≤k2)∧Drawn0 w w')
        case atStart=>exact⟨(0),zq6,H',⟨Nat.le_refl _⟩,zq8⟩
        case round=>
         clear H';(try clear c1);(try clear p2);(try clear c3);(try clear c4);(try clear i1);(try clear p4);(try clear q4);(try clear t6);(try clear c5);(try clear l6);(try clear c6);(try clear l7);(try clear p6);(try clear c7);(try clear i2);(try clear i3);(try clear i4);(try clear c8);(try clear l8);(try clear c9);(try clear q0);(try clear j2);(try clear j8);(try clear j3);(try clear j9);(try clear j5);(try clear k0);(try clear v1);(try clear j6);(try clear h1);(try clear k4);(try clear b9);(try clear f1);(try clear f2);(try clear p2);(try clear p4);(try clear b7);(try clear d0);(try clear d1);(try clear p6);(try clear q4);(try clear b8);(try clear d4);(try clear d5);obtain⟨a1,rfl,HA,d8,⟨m3,rfl⟩⟩:=hrel
         cases gk with
         |zero=>exact absurd HA.out (by simp [spec_OrderOk.l3])
         |succ k3=>
          have H:=HA.out;clear HA;simp only [spec_OrderOk.l3] at H
          by_cases j7:a1<(l0.length:Int)
          ·rw [if_pos j7] at H;have p1:decide (a1<(l0.length:Int))=true:=decide_eq_true j7;clear j7;have q5:=zqm H;clear H
           go_upto_region 20 with (fail)
           go_cut [87] (fun y4 wc=> ∃(kq:Nat) (h5:Bool),y4= .bool h5∧Aside0 (spec_OrderOk.j4 kq l0 (l0.length:Int) a0 a1 h5=some r)∧Aside0 (kq≤k3)∧Drawn0 w wc)
           case first=>
            have H:=q5.out;clear q5
            by_cases h2:a0=a1
            ·rw [if_pos h2] at H;have f4:(a0==a1)=true:=beq_iff_eq.mpr h2;have p3:(a0 !=a1)=false:=bne_eq_false_iff_eq.mpr h2;clear h2;(first|rw [f4]|(simp only [i64_w,i32_w];rw [f4])|skip)
             by_cases n0:0≤a0
             ·rw [if_pos n0] at H;have r8:decide (0≤a0)=true:=decide_eq_true n0;clear n0
              by_cases n1:a0<(l0.length:Int)
              ·rw [if_pos n1] at H;have r9:decide (a0<(l0.length:Int))=true:=decide_eq_true n1;clear n1
               by_cases n2:0≤a1
               ·rw [if_pos n2] at H;have s0:decide (0≤a1)=true:=decide_eq_true n2;clear n2
                by_cases n3:a1<((rd_L2 l0 a0).length:Int)
                ·rw [if_pos n3] at H;have s1:decide (a1<((rd_L2 l0 a0).length:Int))=true:=decide_eq_true n3;clear n3
                 by_cases h3:(rd (rd_L2 l0 a0) a1)=0
                 ·rw [if_pos h3] at H;have p5:((rd (rd_L2 l0 a0) a1)==0)=true:=beq_iff_eq.mpr h3;have p7:((rd (rd_L2 l0 a0) a1) !=0)=false:=bne_eq_false_iff_eq.mpr h3;clear h3;have H':=zqm H;clear H;have f5:0≤(a0:Int):=zqo;have f9:a0<(l0.length:Int):=zqo;obtain⟨w4,u8,v9,q9,i5,e8,e3⟩:=at_L2 b5.out a0 f5 f9
                  cases q9
                  have h8:=zqm e3;have t9:=zqm e8;clear e3 e8;replace f5:=eq_true f5;replace f9:=eq_true f9;have f6:0≤(a1:Int):=zqo;have g0:a1<((rd_L2 l0 a0).length:Int):=zqo;obtain⟨w5,r0,i6⟩:=Kd.at_int h8.out a1 f6 g0
                  cases r0
                  replace f6:=eq_true f6;replace g0:=eq_true g0
                  go_wp2
                  go_meet
                  case rel=>exact⟨_,(true),zq6,H',⟨zq135⟩,zq8⟩
                 ·rw [if_neg h3] at H;have p5:((rd (rd_L2 l0 a0) a1)==0)=false:=beq_eq_false_iff_ne.mpr h3;have p7:((rd (rd_L2 l0 a0) a1) !=0)=true:=bne_iff_ne.mpr h3;have H':=zqm H;clear H;have f5:0≤(a0:Int):=zqo;have f9:a0<(l0.length:Int):=zqo;obtain⟨w4,u8,v9,q9,i5,e8,e3⟩:=at_L2 b5.out a0 f5 f9
                  cases q9
                  have h8:=zqm e3;have t9:=zqm e8;clear e3 e8;replace f5:=eq_true f5;replace f9:=eq_true f9;have f6:0≤(a1:Int):=zqo;have g0:a1<((rd_L2 l0 a0).length:Int):=zqo;obtain⟨w5,r0,i6⟩:=Kd.at_int h8.out a1 f6 g0
                  cases r0
                  replace f6:=eq_true f6;replace g0:=eq_true g0
                  go_wp2
                  go_meet
                  case rel=>exact⟨_,(false),zq6,H',⟨zq135⟩,zq8⟩
                ·rw [if_neg n3] at H;exact absurd H (by simp)
               ·rw [if_neg n2] at H;exact absurd H (by simp)
              ·rw [if_neg n1] at H;exact absurd H (by simp)
             ·rw [if_neg n0] at H;exact absurd H (by simp)
            ·rw [if_neg h2] at H;have f4:(a0==a1)=false:=beq_eq_false_iff_ne.mpr h2;have p3:(a0 !=a1)=true:=bne_iff_ne.mpr h2;(first|rw [f4]|(simp only [i64_w,i32_w];rw [f4])|skip)
             by_cases n4:0≤a0
             ·rw [if_pos n4] at H;have s2:decide (0≤a0)=true:=decide_eq_true n4;clear n4
              by_cases n5:a0<(l0.length:Int)
              ·rw [if_pos n5] at H;have s3:decide (a0<(l0.length:Int))=true:=decide_eq_true n5;clear n5
               by_cases n6:0≤a1
               ·rw [if_pos n6] at H;have s4:decide (0≤a1)=true:=decide_eq_true n6;clear n6
                by_cases n7:a1<((rd_L2 l0 a0).length:Int)
                ·rw [if_pos n7] at H;have s5:decide (a1<((rd_L2 l0 a0).length:Int))=true:=decide_eq_true n7;clear n7
                 by_cases h4:(rd (rd_L2 l0 a0) a1)=1
                 ·rw [if_pos h4] at H;have p8:((rd (rd_L2 l0 a0) a1)==1)=true:=beq_iff_eq.mpr h4;have p9:((rd (rd_L2 l0 a0) a1) !=1)=false:=bne_eq_false_iff_eq.mpr h4;clear h4
                  by_cases n8:a1<(l0.length:Int)
                  ·rw [if_pos n8] at H;have s6:decide (a1<(l0.length:Int))=true:=decide_eq_true n8;clear n8
                   by_cases n9:a0<((rd_L2 l0 a1).length:Int)
                   ·rw [if_pos n9] at H;have s7:decide (a0<((rd_L2 l0 a1).length:Int))=true:=decide_eq_true n9;clear n9;have H':=zqm H;clear H;have f7:0≤(a0:Int):=zqo;have g1:a0<(l0.length:Int):=zqo;obtain⟨r6,u9,w0,r1,i7,e9,e4⟩:=at_L2 b5.out a0 f7 g1
                    cases r1
                    have h9:=zqm e4;have u0:=zqm e9;clear e4 e9;replace f7:=eq_true f7;replace g1:=eq_true g1;have f8:0≤(a1:Int):=zqo;have g2:a1<((rd_L2 l0 a0).length:Int):=zqo;obtain⟨w6,r2,i8⟩:=Kd.at_int h9.out a1 f8 g2
                    cases r2
                    replace f8:=eq_true f8;replace g2:=eq_true g2;have m4:0≤(a1:Int):=zqo;have m7:a1<(l0.length:Int):=zqo;obtain⟨w7,y2,y3,x8,o3,o2,o1⟩:=at_L2 b5.out a1 m4 m7;obtain rfl:r6=w7:=(by injection x8);have u3:=zqm o1;have y1:=zqm o2;clear o1 o2;replace m4:=eq_true m4;replace m7:=eq_true m7;have m6:0≤(a0:Int):=zqo;have m8:a0<((rd_L2 l0 a1).length:Int):=zqo;obtain⟨y5,x9,o4⟩:=Kd.at_int u3.out a0 m6 m8
                    cases x9
                    replace m6:=eq_true m6;replace m8:=eq_true m8
                    go_wp2
                    go_meet
                    case rel=>exact⟨_,(((rd (rd_L2 l0 a1) a0)==1)),zq6,H',⟨zq135⟩,zq8⟩
                   ·rw [if_neg n9] at H;exact absurd H (by simp)
                  ·rw [if_neg n8] at H;exact absurd H (by simp)
                 ·rw [if_neg h4] at H;have p8:((rd (rd_L2 l0 a0) a1)==1)=false:=beq_eq_false_iff_ne.mpr h4;have p9:((rd (rd_L2 l0 a0) a1) !=1)=true:=bne_iff_ne.mpr h4;have H':=zqm H;clear H;have f7:0≤(a0:Int):=zqo;have g1:a0<(l0.length:Int):=zqo;obtain⟨r6,u9,w0,r1,i7,e9,e4⟩:=at_L2 b5.out a0 f7 g1
                  cases r1
                  have h9:=zqm e4;have u0:=zqm e9;clear e4 e9;replace f7:=eq_true f7;replace g1:=eq_true g1;have f8:0≤(a1:Int):=zqo;have g2:a1<((rd_L2 l0 a0).length:Int):=zqo;obtain⟨w6,r2,i8⟩:=Kd.at_int h9.out a1 f8 g2
                  cases r2
                  replace f8:=eq_true f8;replace g2:=eq_true g2
                  go_wp2
                  go_meet
                  case rel=>exact⟨_,(false),zq6,H',⟨zq135⟩,zq8⟩
                ·rw [if_neg n7] at H;exact absurd H (by simp)
               ·rw [if_neg n6] at H;exact absurd H (by simp)
              ·rw [if_neg n5] at H;exact absurd H (by simp)
             ·rw [if_neg n4] at H;exact absurd H (by simp)
           case rest=>
            clear q5;(try clear c1);(try clear c2);(try clear p2);(try clear c3);(try clear c4);(try clear i1);(try clear p4);(try clear q4);(try clear t6);(try clear c5);(try clear l6);(try clear c6);(try clear l7);(try clear p6);(try clear c7);(try clear i2);(try clear i3);(try clear i4);(try clear c8);(try clear l8);(try clear c9);(try clear q0);(try clear j2);(try clear j8);(try clear j3);(try clear j9);(try clear j5);(try clear k0);(try clear v1);(try clear j6);(try clear h1);(try clear k4);(try clear j7);(try clear p1);(try clear h2);(try clear f4);(try clear p3);(try clear n0);(try clear r8);(try clear n1);(try clear r9);(try clear n2);(try clear s0);(try clear n3);(try clear s1);(try clear h3);(try clear p5);(try clear p7);(try clear n4);(try clear s2);(try clear n5);(try clear s3);(try clear n6);(try clear s4);(try clear n7);(try clear s5);(try clear h4);(try clear p8);(try clear p9);(try clear n8);(try clear s6);(try clear n9);(try clear s7);(try clear b9);(try clear f1);(try clear f2);(try clear i5);(try clear i6);(try clear i7);(try clear i8);(try clear o3);(try clear o4);(try clear p2);(try clear p4);(try clear b7);(try clear d0);(try clear d1);(try clear f5);(try clear f6);(try clear f7);(try clear f8);(try clear m4);(try clear m6);(try clear p6);(try clear q4);(try clear b8);(try clear d4);(try clear d5);(try clear f9);(try clear g0);(try clear g1);(try clear g2);(try clear m7);(try clear m8);obtain⟨kq,h5,rfl,HA,g3,⟨mc16,rfl⟩⟩:=hcut
            cases kq with
            |zero=>exact absurd HA.out (by simp [spec_OrderOk.j4])
            |succ w2=>
             have H:=HA.out;clear HA;simp only [spec_OrderOk.j4] at H
             by_cases q2:h5=true
             ·subst q2;rw [if_pos rfl] at H;obtain rfl:=Option.some.inj H
              go_wp2
              go_ret
              exact⟨zq6,zq8⟩
             ·replace q2:=Bool.eq_false_iff.mpr q2;subst q2;rw [if_neg (show¬(false=true) by decide)] at H;have H':=zqm H;clear H
              go_wp2
              go_loopg [8] w2 (fun kq v8 w'=> ∃(a3:Int),v8= .int .i64 a3∧Aside0 (spec_OrderOk.l4 kq l0 (l0.length:Int) a0 a1 a3=some r)∧Aside0 (kq≤w2)∧Drawn0 w w')
              case atStart=>exact⟨(0),zq6,H',⟨Nat.le_refl _⟩,zq8⟩
              case round=>
               clear H';(try clear c1);(try clear c2);(try clear p2);(try clear c3);(try clear c4);(try clear i1);(try clear p4);(try clear q4);(try clear t6);(try clear c5);(try clear l6);(try clear c6);(try clear l7);(try clear p6);(try clear c7);(try clear i2);(try clear i3);(try clear i4);(try clear c8);(try clear l8);(try clear c9);(try clear q0);(try clear j2);(try clear j8);(try clear j3);(try clear j9);(try clear j5);(try clear k0);(try clear v1);(try clear j6);(try clear h1);(try clear k4);(try clear j7);(try clear p1);(try clear h2);(try clear f4);(try clear p3);(try clear n0);(try clear r8);(try clear n1);(try clear r9);(try clear n2);(try clear s0);(try clear n3);(try clear s1);(try clear h3);(try clear p5);(try clear p7);(try clear n4);(try clear s2);(try clear n5);(try clear s3);(try clear n6);(try clear s4);(try clear n7);(try clear s5);(try clear h4);(try clear p8);(try clear p9);(try clear n8);(try clear s6);(try clear n9);(try clear s7);(try clear q2);(try clear b9);(try clear f1);(try clear f2);(try clear i5);(try clear i6);(try clear i7);(try clear i8);(try clear o3);(try clear o4);(try clear p2);(try clear p4);(try clear b7);(try clear d0);(try clear d1);(try clear f5);(try clear f6);(try clear f7);(try clear f8);(try clear m4);(try clear m6);(try clear p6);(try clear q4);(try clear b8);(try clear d4);(try clear d5);(try clear f9);(try clear g0);(try clear g1);(try clear g2);(try clear m7);(try clear m8);obtain⟨a3,rfl,HA,j1,⟨m5,rfl⟩⟩:=hrel
               cases gk with
               |zero=>exact absurd HA.out (by simp [spec_OrderOk.l4])
               |succ k5=>
                have H:=HA.out;clear HA;simp only [spec_OrderOk.l4] at H
                by_cases o0:a3<(l0.length:Int)
                ·rw [if_pos o0] at H;have w9:decide (a3<(l0.length:Int))=true:=decide_eq_true o0;clear o0
                 by_cases s8:0≤a0
                 ·rw [if_pos s8] at H;have y6:decide (0≤a0)=true:=decide_eq_true s8;clear s8
                  by_cases s9:a0<(l0.length:Int)
                  ·rw [if_pos s9] at H;have y7:decide (a0<(l0.length:Int))=true:=decide_eq_true s9;clear s9
                   by_cases t0:0≤a1
                   ·rw [if_pos t0] at H;have y8:decide (0≤a1)=true:=decide_eq_true t0;clear t0
                    by_cases t1:a1<((rd_L2 l0 a0).length:Int)
                    ·rw [if_pos t1] at H;have y9:decide (a1<((rd_L2 l0 a0).length:Int))=true:=decide_eq_true t1;clear t1
                     by_cases k7:(rd (rd_L2 l0 a0) a1)=1
                     ·rw [if_pos k7] at H;have x0:((rd (rd_L2 l0 a0) a1)==1)=true:=beq_iff_eq.mpr k7;have x1:((rd (rd_L2 l0 a0) a1) !=1)=false:=bne_eq_false_iff_eq.mpr k7;clear k7
                      by_cases t2:a1<(l0.length:Int)
                      ·rw [if_pos t2] at H;have z0:decide (a1<(l0.length:Int))=true:=decide_eq_true t2;clear t2
                       by_cases t3:0≤a3
                       ·rw [if_pos t3] at H;have z1:decide (0≤a3)=true:=decide_eq_true t3;clear t3
                        by_cases t4:a3<((rd_L2 l0 a1).length:Int)
                        ·rw [if_pos t4] at H;have z2:decide (a3<((rd_L2 l0 a1).length:Int))=true:=decide_eq_true t4;clear t4
                         by_cases k8:(rd (rd_L2 l0 a1) a3)=1
                         ·rw [if_pos k8] at H;have x2:((rd (rd_L2 l0 a1) a3)==1)=true:=beq_iff_eq.mpr k8;have x3:((rd (rd_L2 l0 a1) a3) !=1)=false:=bne_eq_false_iff_eq.mpr k8;clear k8
                          by_cases t5:a3<((rd_L2 l0 a0).length:Int)
                          ·rw [if_pos t5] at H;have z3:decide (a3<((rd_L2 l0 a0).length:Int))=true:=decide_eq_true t5;clear t5
                           by_cases k9:(rd (rd_L2 l0 a0) a3)=0
                           ·rw [if_pos k9] at H;have x4:((rd (rd_L2 l0 a0) a3)==0)=true:=beq_iff_eq.mpr k9;have x5:((rd (rd_L2 l0 a0) a3) !=0)=false:=bne_eq_false_iff_eq.mpr k9;clear k9;obtain rfl:=Option.some.inj H;have a7:0≤(a0:Int):=zqo;have a9:a0<(l0.length:Int):=zqo;obtain⟨d9,k6,l5,g4,f3,a6,a5⟩:=at_L2 b5.out a0 a7 a9
                            cases g4
                            have b6:=zqm a5;have h6:=zqm a6;clear a5 a6;replace a7:=eq_true a7;replace a9:=eq_true a9;have a8:0≤(a1:Int):=zqo;have b0:a1<((rd_L2 l0 a0).length:Int):=zqo;obtain⟨o9,g5,i9⟩:=Kd.at_int b6.out a1 a8 b0
                            cases g5
                            replace a8:=eq_true a8;replace b0:=eq_true b0;have d2:0≤(a1:Int):=zqo;have d6:a1<(l0.length:Int):=zqo;obtain⟨h0,q1,q3,l9,o5,b2,b1⟩:=at_L2 b5.out a1 d2 d6;obtain rfl:d9=h0:=(by injection l9);have e0:=zqm b1;have m9:=zqm b2;clear b1 b2;replace d2:=eq_true d2;replace d6:=eq_true d6;have d3:0≤(a3:Int):=zqo;have d7:a3<((rd_L2 l0 a1).length:Int):=zqo;obtain⟨r7,m0,o6⟩:=Kd.at_int e0.out a3 d3 d7
                            cases m0
                            replace d3:=eq_true d3;replace d7:=eq_true d7;have g6:0≤(a0:Int):=zqo;have g8:a0<(l0.length:Int):=zqo;obtain⟨p0,v0,w1,r3,j0,f0,e5⟩:=at_L2 b5.out a0 g6 g8;obtain rfl:d9=p0:=(by injection r3);have i0:=zqm e5;have u1:=zqm f0;clear e5 f0;replace g6:=eq_true g6;replace g8:=eq_true g8;have ea_:=Option.some.inj (f3.symm.trans j0);injection ea_ with ea_ en_ ec_;subst ea_;subst ec_;clear en_;have g7:0≤(a3:Int):=zqo;have g9:a3<((rd_L2 l0 a0).length:Int):=zqo;obtain⟨w8,r4,u4⟩:=Kd.at_int i0.out a3 g7 g9
                            cases r4
                            replace g7:=eq_true g7;replace g9:=eq_true g9
                            go_wp2
                            go_ret
                            exact⟨zq6,zq8⟩
                           ·rw [if_neg k9] at H;have x4:((rd (rd_L2 l0 a0) a3)==0)=false:=beq_eq_false_iff_ne.mpr k9;have x5:((rd (rd_L2 l0 a0) a3) !=0)=true:=bne_iff_ne.mpr k9;have H':=zqm H;clear H;have a7:0≤(a0:Int):=zqo;have a9:a0<(l0.length:Int):=zqo;obtain⟨d9,k6,l5,g4,f3,a6,a5⟩:=at_L2 b5.out a0 a7 a9
                            cases g4
                            have b6:=zqm a5;have h6:=zqm a6;clear a5 a6;replace a7:=eq_true a7;replace a9:=eq_true a9;have a8:0≤(a1:Int):=zqo;have b0:a1<((rd_L2 l0 a0).length:Int):=zqo;obtain⟨o9,g5,i9⟩:=Kd.at_int b6.out a1 a8 b0
                            cases g5
                            replace a8:=eq_true a8;replace b0:=eq_true b0;have d2:0≤(a1:Int):=zqo;have d6:a1<(l0.length:Int):=zqo;obtain⟨h0,q1,q3,l9,o5,b2,b1⟩:=at_L2 b5.out a1 d2 d6;obtain rfl:d9=h0:=(by injection l9);have e0:=zqm b1;have m9:=zqm b2;clear b1 b2;replace d2:=eq_true d2;replace d6:=eq_true d6;have d3:0≤(a3:Int):=zqo;have d7:a3<((rd_L2 l0 a1).length:Int):=zqo;obtain⟨r7,m0,o6⟩:=Kd.at_int e0.out a3 d3 d7
                            cases m0
                            replace d3:=eq_true d3;replace d7:=eq_true d7;have g6:0≤(a0:Int):=zqo;have g8:a0<(l0.length:Int):=zqo;obtain⟨p0,v0,w1,r3,j0,f0,e5⟩:=at_L2 b5.out a0 g6 g8;obtain rfl:d9=p0:=(by injection r3);have i0:=zqm e5;have u1:=zqm f0;clear e5 f0;replace g6:=eq_true g6;replace g8:=eq_true g8;have ea_:=Option.some.inj (f3.symm.trans j0);injection ea_ with ea_ en_ ec_;subst ea_;subst ec_;clear en_;have g7:0≤(a3:Int):=zqo;have g9:a3<((rd_L2 l0 a0).length:Int):=zqo;obtain⟨w8,r4,u4⟩:=Kd.at_int i0.out a3 g7 g9
                            cases r4
                            replace g7:=eq_true g7;replace g9:=eq_true g9
                            go_wp2
                            go_roundg k5
                            (case measure=> exact zq72);case rel=>exact⟨(wrap64 (a3+1)),zq6,H',⟨zq72⟩,zq8⟩
                          ·rw [if_neg t5] at H;exact absurd H (by simp)
                         ·rw [if_neg k8] at H;have x2:((rd (rd_L2 l0 a1) a3)==1)=false:=beq_eq_false_iff_ne.mpr k8;have x3:((rd (rd_L2 l0 a1) a3) !=1)=true:=bne_iff_ne.mpr k8;have H':=zqm H;clear H;have a7:0≤(a0:Int):=zqo;have a9:a0<(l0.length:Int):=zqo;obtain⟨d9,k6,l5,g4,f3,a6,a5⟩:=at_L2 b5.out a0 a7 a9
                          cases g4
                          have b6:=zqm a5;have h6:=zqm a6;clear a5 a6;replace a7:=eq_true a7;replace a9:=eq_true a9;have a8:0≤(a1:Int):=zqo;have b0:a1<((rd_L2 l0 a0).length:Int):=zqo;obtain⟨o9,g5,i9⟩:=Kd.at_int b6.out a1 a8 b0
                          cases g5
                          replace a8:=eq_true a8;replace b0:=eq_true b0;have d2:0≤(a1:Int):=zqo;have d6:a1<(l0.length:Int):=zqo;obtain⟨h0,q1,q3,l9,o5,b2,b1⟩:=at_L2 b5.out a1 d2 d6;obtain rfl:d9=h0:=(by injection l9);have e0:=zqm b1;have m9:=zqm b2;clear b1 b2;replace d2:=eq_true d2;replace d6:=eq_true d6;have d3:0≤(a3:Int):=zqo;have d7:a3<((rd_L2 l0 a1).length:Int):=zqo;obtain⟨r7,m0,o6⟩:=Kd.at_int e0.out a3 d3 d7
                          cases m0
                          replace d3:=eq_true d3;replace d7:=eq_true d7
                          go_wp2
                          go_roundg k5
                          (case measure=> exact zq72);case rel=>exact⟨(wrap64 (a3+1)),zq6,H',⟨zq72⟩,zq8⟩
                        ·rw [if_neg t4] at H;exact absurd H (by simp)
                       ·rw [if_neg t3] at H;exact absurd H (by simp)
                      ·rw [if_neg t2] at H;exact absurd H (by simp)
                     ·rw [if_neg k7] at H;have x0:((rd (rd_L2 l0 a0) a1)==1)=false:=beq_eq_false_iff_ne.mpr k7;have x1:((rd (rd_L2 l0 a0) a1) !=1)=true:=bne_iff_ne.mpr k7;have H':=zqm H;clear H;have a7:0≤(a0:Int):=zqo;have a9:a0<(l0.length:Int):=zqo;obtain⟨d9,k6,l5,g4,f3,a6,a5⟩:=at_L2 b5.out a0 a7 a9
                      cases g4
                      have b6:=zqm a5;have h6:=zqm a6;clear a5 a6;replace a7:=eq_true a7;replace a9:=eq_true a9;have a8:0≤(a1:Int):=zqo;have b0:a1<((rd_L2 l0 a0).length:Int):=zqo;obtain⟨o9,g5,i9⟩:=Kd.at_int b6.out a1 a8 b0
                      cases g5
                      replace a8:=eq_true a8;replace b0:=eq_true b0
                      go_wp2
                      go_roundg k5
                      (case measure=> exact zq72);case rel=>exact⟨(wrap64 (a3+1)),zq6,H',⟨zq72⟩,zq8⟩
                    ·rw [if_neg t1] at H;exact absurd H (by simp)
                   ·rw [if_neg t0] at H;exact absurd H (by simp)
                  ·rw [if_neg s9] at H;exact absurd H (by simp)
                 ·rw [if_neg s8] at H;exact absurd H (by simp)
                ·rw [if_neg o0] at H;have w9:decide (a3<(l0.length:Int))=false:=decide_eq_false o0;clear o0;have H':=zqm H;clear H
                 go_wp2
                 go_roundg k5
                 (case measure=> exact zq72);case rel=>exact⟨(wrap64 (a1+1)),zq6,H',⟨zq72⟩,zq8⟩
          ·rw [if_neg j7] at H;have p1:decide (a1<(l0.length:Int))=false:=decide_eq_false j7;clear j7;have H':=zqm H;clear H
           go_wp2
           go_roundg k3
           (case measure=>have:=b4.out;have:=b3.out;have:=d8.out;omega);case rel=>exact⟨(wrap64 (a0+1)),zq6,H',⟨by have:=b4.out;have:=b3.out;have:=d8.out;omega⟩,zq8⟩
       ·rw [if_neg h1] at H;have k4:decide (a0<(l0.length:Int))=false:=decide_eq_false h1;clear h1;obtain rfl:=Option.some.inj H
        go_wp2
        go_ret
        exact⟨zq6,zq8⟩
 ·replace c3:=Bool.eq_false_iff.mpr c3;subst c3;rw [if_neg (show¬(false=true) by decide)] at H;obtain rfl:=Option.some.inj H
  go_enter Try.func136,Try.ntmps136
  go_wp2_with (first|((with_reducible refine gate_callee (f:=78) rfl ?_);refine goesL_ (some 12) rfl rfl Try.func78 zqk rfl #[.int .i64 (l0.length:Int),.int .i64 1,.int .i64 12] rfl zq5 ?_;(with_reducible refine(spec_l1In.calls (l0.length:Int) 1 12 false _ A2.out).mono ?_);rintro e w' ⟨rfl,⟨nd,rfl⟩⟩;refine⟨_,rfl,?_⟩))
  go_ret
  exact⟨zq6,zq8⟩
end
section
attribute [local go_sem] max2_int min2_int max_two min_two max_three min_three max_four min_four
mutual
def spec_LatticeOk.l0 : Nat → List (List Int) → Int → Option (Bool)
 | 0, _, _ => none
 | k + 1, x0, x3 => if x3 < (x0.length : Int) then ((spec_OrderOk.f k x0).bind fun t484 => (spec_LatticeOk.j1 k x0 x3 t484)) else (spec_LatticeOk.j1 k x0 x3 false)
def spec_LatticeOk.j1 : Nat → List (List Int) → Int → Bool → Option (Bool)
 | 0, _, _, _ => none
 | k + 1, x0, x3, x12 => if x12 = true then (spec_LatticeOk.l1 k x0 x3 0) else ((spec_OrderOk.f k x0).bind fun t485 => (some t485))
def spec_LatticeOk.l1 : Nat → List (List Int) → Int → Int → Option (Bool)
 | 0, _, _, _ => none
 | k + 1, x0, x3, x4 => if x4 < x3 then ((spec_l1Meet.f k x0 x3 x4).bind fun t486 => (if t486 < 0 then (some false) else ((spec_l1Join.f k x0 x3 x4).bind fun t487 => (if t487 < 0 then (some false) else (spec_LatticeOk.l1 k x0 x3 (wrap64 (x4 + 1))))))) else (spec_LatticeOk.l0 k x0 (wrap64 (x3 + 1)))
end
def spec_LatticeOk.f (k : Nat) (l0 : List (List Int)) : Option (Bool) := spec_LatticeOk.l0 k l0 0
set_option maxHeartbeats 8000000 in
set_option maxRecDepth 100000 in
theorem spec_LatticeOk.calls (k : Nat) (A0 : Option Addr) (c0 : Nat) (l0 : List (List Int)) (r : Bool) (w : World) (hr0 : Kd.C (Kd.slice 3 (Kd.int .i64)) w A0 l0.length l0) (hc0 : l0.length ≤ c0) (h : spec_LatticeOk.f k l0 = some r) :
  Calls Try.prog 77 #[.slice A0 l0.length c0] w fun e w' => e = .returned (.bool r) ∧ Drawn0 w w' := by
 have a5:=zqm hr0;have a4:=zqm hc0;clear hr0 hc0;have H:(spec_LatticeOk.l0 k l0 0)=some r:=h;clear h;have H':=zqm H;clear H
 go_enter Try.func77,Try.ntmps77
 go_wp2
 go_loopg [3] k (fun kq v3 w'=> ∃(a0:Int),v3= .int .i64 a0∧Aside0 (spec_LatticeOk.l0 kq l0 a0=some r)∧Aside0 (kq≤k)∧Drawn0 w w')
 case atStart=>exact⟨(0),zq6,H',⟨Nat.le_refl _⟩,zq8⟩
 case round=>
  clear H';obtain⟨a0,rfl,HA,a8,⟨m1,rfl⟩⟩:=hrel
  cases gk with
  |zero=>exact absurd HA.out (by simp [spec_LatticeOk.l0])
  |succ k1=>
   have H:=HA.out;clear HA;simp only [spec_LatticeOk.l0] at H;have b3:=zqm H;clear H
   go_upto_region 2 with (fail)
   go_cut [12] (fun c9 wc=> ∃(kq:Nat) (a3:Bool),c9= .bool a3∧Aside0 (spec_LatticeOk.j1 kq l0 a0 a3=some r)∧Aside0 (kq≤k1)∧Drawn0 w wc)
   case first=>
    have H:=b3.out;clear b3
    by_cases c3:a0<(l0.length:Int)
    ·rw [if_pos c3] at H;have a6:decide (a0<(l0.length:Int))=true:=decide_eq_true c3;clear c3;(first|rw [a6]|(simp only [i64_w,i32_w];rw [a6])|skip);replace H:=Option.bind_eq_some_iff.mp H;obtain⟨b5,b7,H⟩:=H;(try dsimp only at H);have A4:=zqm b7;clear b7;have H':=zqm H;clear H
     go_wp2_with (first|(go_at_call 136;(with_reducible refine(spec_OrderOk.calls k1 _ _ l0 b5 _ ?side1 ?side2 A4.out).mono ?_);(case side1=> exact zq38);(case side2=>exact a4.out);rintro e w' ⟨rfl,⟨nd,rfl⟩⟩))
     go_meet
     case rel=>exact⟨_,(b5),zq6,H',⟨by have:=a8.out;first|omega|exact Nat.le_refl _⟩,zq8⟩
    ·rw [if_neg c3] at H;have a6:decide (a0<(l0.length:Int))=false:=decide_eq_false c3;clear c3;(first|rw [a6]|(simp only [i64_w,i32_w];rw [a6])|skip);have H':=zqm H;clear H
     go_wp2
     go_meet
     case rel=>exact⟨_,(false),zq6,H',⟨by have:=a8.out;first|omega|exact Nat.le_refl _⟩,zq8⟩
   case rest=>
    clear b3;obtain⟨kq,a3,rfl,HA,b0,⟨mc1,rfl⟩⟩:=hcut
    cases kq with
    |zero=>exact absurd HA.out (by simp [spec_LatticeOk.j1])
    |succ b4=>
     have H:=HA.out;clear HA;simp only [spec_LatticeOk.j1] at H
     by_cases c5:a3=true
     ·subst c5;rw [if_pos rfl] at H;have H':=zqm H;clear H
      go_wp2
      go_loopg [4] b4 (fun kq v4 w'=> ∃(a1:Int),v4= .int .i64 a1∧Aside0 (spec_LatticeOk.l1 kq l0 a0 a1=some r)∧Aside0 (kq≤b4)∧Drawn0 w w')
      case atStart=>exact⟨(0),zq6,H',⟨Nat.le_refl _⟩,zq8⟩
      case round=>
       clear H';obtain⟨a1,rfl,HA,b1,⟨m3,rfl⟩⟩:=hrel
       cases gk with
       |zero=>exact absurd HA.out (by simp [spec_LatticeOk.l1])
       |succ k3=>
        have H:=HA.out;clear HA;simp only [spec_LatticeOk.l1] at H
        by_cases c6:a1<a0
        ·rw [if_pos c6] at H;have c1:decide (a1<a0)=true:=decide_eq_true c6;clear c6;replace H:=Option.bind_eq_some_iff.mp H;obtain⟨a2,b8,H⟩:=H;(try dsimp only at H);have A7:=zqm b8;clear b8
         by_cases c8:a2<0
         ·rw [if_pos c8] at H;have c2:decide (a2<0)=true:=decide_eq_true c8;clear c8;obtain rfl:=Option.some.inj H
          go_wp2_with (first|((with_reducible refine gate_callee (f:=80) rfl ?_);refine goesL_ (some 23) rfl rfl Try.func80 zqk rfl #[.slice A0 l0.length c0,.int .i64 a0,.int .i64 a1] rfl zq5 ?_;(with_reducible refine(spec_l1Meet.calls k3 _ _ l0 a0 a1 a2 _ ?side1 ?side2 A7.out).mono ?_);(case side1=> exact zq38);(case side2=>exact a4.out);rintro e w' ⟨rfl,⟨nd,rfl⟩⟩;refine⟨_,rfl,?_⟩))
          go_ret
          exact⟨zq6,zq8⟩
         ·rw [if_neg c8] at H;have c2:decide (a2<0)=false:=decide_eq_false c8;clear c8;replace H:=Option.bind_eq_some_iff.mp H;obtain⟨a7,b9,H⟩:=H;(try dsimp only at H);have A9:=zqm b9;clear b9
          by_cases a9:a7<0
          ·rw [if_pos a9] at H;have b6:decide (a7<0)=true:=decide_eq_true a9;clear a9;obtain rfl:=Option.some.inj H
           go_wp2_with (first|((with_reducible refine gate_callee (f:=80) rfl ?_);refine goesL_ (some 23) rfl rfl Try.func80 zqk rfl #[.slice A0 l0.length c0,.int .i64 a0,.int .i64 a1] rfl zq5 ?_;(with_reducible refine(spec_l1Meet.calls k3 _ _ l0 a0 a1 a2 _ ?side1 ?side2 A7.out).mono ?_);(case side1=> exact zq38);(case side2=>exact a4.out);rintro e w' ⟨rfl,⟨nd,rfl⟩⟩;refine⟨_,rfl,?_⟩)|(go_at_call 94;(with_reducible refine(spec_l1Join.calls k3 _ _ l0 a0 a1 a7 _ ?side1 ?side2 A9.out).mono ?_);(case side1=> exact zq38);(case side2=>exact a4.out);rintro e w' ⟨rfl,⟨nd,rfl⟩⟩))
           go_ret
           exact⟨zq6,zq8⟩
          ·rw [if_neg a9] at H;have b6:decide (a7<0)=false:=decide_eq_false a9;clear a9;have H':=zqm H;clear H
           go_wp2_with (first|((with_reducible refine gate_callee (f:=80) rfl ?_);refine goesL_ (some 23) rfl rfl Try.func80 zqk rfl #[.slice A0 l0.length c0,.int .i64 a0,.int .i64 a1] rfl zq5 ?_;(with_reducible refine(spec_l1Meet.calls k3 _ _ l0 a0 a1 a2 _ ?side1 ?side2 A7.out).mono ?_);(case side1=> exact zq38);(case side2=>exact a4.out);rintro e w' ⟨rfl,⟨nd,rfl⟩⟩;refine⟨_,rfl,?_⟩)|(go_at_call 94;(with_reducible refine(spec_l1Join.calls k3 _ _ l0 a0 a1 a7 _ ?side1 ?side2 A9.out).mono ?_);(case side1=> exact zq38);(case side2=>exact a4.out);rintro e w' ⟨rfl,⟨nd,rfl⟩⟩))
           go_roundg k3
           (case measure=> exact zq166);case rel=>exact⟨(wrap64 (a1+1)),zq6,H',⟨zq166⟩,zq8⟩
        ·rw [if_neg c6] at H;have c1:decide (a1<a0)=false:=decide_eq_false c6;clear c6;have H':=zqm H;clear H
         go_wp2
         go_roundg k3
         (case measure=> exact zq166);case rel=>exact⟨(wrap64 (a0+1)),zq6,H',⟨zq166⟩,zq8⟩
     ·replace c5:=Bool.eq_false_iff.mpr c5;subst c5;rw [if_neg (show¬(false=true) by decide)] at H;replace H:=Option.bind_eq_some_iff.mp H;obtain⟨c4,b2,H⟩:=H;(try dsimp only at H);have c7:=zqm b2;clear b2;obtain rfl:=Option.some.inj H
      go_wp2_with (first|((with_reducible refine gate_callee (f:=136) rfl ?_);refine goesL_ (some 33) rfl rfl Try.func136 zqk rfl #[.slice A0 l0.length c0] rfl zq5 ?_;(with_reducible refine(spec_OrderOk.calls b4 _ _ l0 c4 _ ?side1 ?side2 c7.out).mono ?_);(case side1=> exact zq38);(case side2=>exact a4.out);rintro e w' ⟨rfl,⟨nd,rfl⟩⟩;refine⟨_,rfl,?_⟩))
      go_ret
      exact⟨zq6,zq8⟩
end
section
attribute [local go_sem] max2_int min2_int max_two min_two max_three min_three max_four min_four
mutual
def spec_LeastOf.l0 : Nat → List (List Int) → Int → Option (Int × Bool)
 | 0, _, _ => none
 | k + 1, x0, x4 => if x4 < (x0.length : Int) then ((spec_OrderOk.f k x0).bind fun t488 => (spec_LeastOf.j1 k x0 x4 t488)) else (spec_LeastOf.j1 k x0 x4 false)
def spec_LeastOf.j1 : Nat → List (List Int) → Int → Bool → Option (Int × Bool)
 | 0, _, _, _ => none
 | k + 1, x0, x4, x14 => if x14 = true then (spec_LeastOf.l1 k x0 x4 true 0) else (some ((-1), false))
def spec_LeastOf.l1 : Nat → List (List Int) → Int → Bool → Int → Option (Int × Bool)
 | 0, _, _, _, _ => none
 | k + 1, x0, x4, x5, x6 => if x6 < (x0.length : Int) then (if x5 = true then (if 0 ≤ x4 then (if x4 < (x0.length : Int) then (if 0 ≤ x6 then (if x6 < ((rd_L2 x0 x4).length : Int) then (spec_LeastOf.l1 k x0 x4 ((rd (rd_L2 x0 x4) x6) == 1) (wrap64 (x6 + 1))) else (none)) else (none)) else (none)) else (none)) else (spec_LeastOf.l1 k x0 x4 false (wrap64 (x6 + 1)))) else (if x5 = true then (some (x4, true)) else (spec_LeastOf.l0 k x0 (wrap64 (x4 + 1))))
end
def spec_LeastOf.f (k : Nat) (l0 : List (List Int)) : Option (Int × Bool) := spec_LeastOf.l0 k l0 0
set_option maxHeartbeats 8000000 in
set_option maxRecDepth 100000 in
theorem spec_LeastOf.calls (k : Nat) (A0 : Option Addr) (c0 : Nat) (l0 : List (List Int)) (r1 : Int) (r2 : Bool) (w : World) (hr0 : Kd.C (Kd.slice 3 (Kd.int .i64)) w A0 l0.length l0) (hc0 : l0.length ≤ c0) (h : spec_LeastOf.f k l0 = some (r1, r2)) :
  Calls Try.prog 79 #[.slice A0 l0.length c0] w fun e w' => e = .returned (.tuple #[.int .i64 r1, .bool r2]) ∧ Drawn0 w w' := by
 have c4:=zqm hr0;have d7:=zqm hc0;clear hr0 hc0;have H:(spec_LeastOf.l0 k l0 0)=some (r1,r2):=h;clear h;have H':=zqm H;clear H
 go_enter Try.func79,Try.ntmps79
 go_wp2
 go_loopg [4] k (fun kq v4 w'=> ∃(a0:Int),v4= .int .i64 a0∧Aside0 (spec_LeastOf.l0 kq l0 a0=some (r1,r2))∧Aside0 (kq≤k)∧Drawn0 w w')
 case atStart=>exact⟨(0),zq6,H',⟨Nat.le_refl _⟩,zq8⟩
 case round=>
  clear H';obtain⟨a0,rfl,HA,a2,⟨m1,rfl⟩⟩:=hrel
  cases gk with
  |zero=>exact absurd HA.out (by simp [spec_LeastOf.l0])
  |succ k1=>
   have H:=HA.out;clear HA;simp only [spec_LeastOf.l0] at H;have b9:=zqm H;clear H
   go_upto_region 2 with (fail)
   go_cut [14] (fun d9 wc=> ∃(kq:Nat) (a3:Bool),d9= .bool a3∧Aside0 (spec_LeastOf.j1 kq l0 a0 a3=some (r1,r2))∧Aside0 (kq≤k1)∧Drawn0 w wc)
   case first=>
    have H:=b9.out;clear b9
    by_cases c3:a0<(l0.length:Int)
    ·rw [if_pos c3] at H;have a4:decide (a0<(l0.length:Int))=true:=decide_eq_true c3;clear c3;(first|rw [a4]|(simp only [i64_w,i32_w];rw [a4])|skip);replace H:=Option.bind_eq_some_iff.mp H;obtain⟨b4,c2,H⟩:=H;replace H:(spec_LeastOf.j1 k1 l0 a0 b4)=some (r1,r2):=H;have A4:=zqm c2;clear c2;have H':=zqm H;clear H
     go_wp2_with (first|(go_at_call 136;(with_reducible refine(spec_OrderOk.calls k1 _ _ l0 b4 _ ?side1 ?side2 A4.out).mono ?_);(case side1=>repeat(first|exact c4.out|(with_reducible refine Kd.C_alloc ?_ _)|(with_reducible refine Kd.C_drewN ?_ _)|(with_reducible refine Kd.C_drew ?_)));(case side2=>exact d7.out);rintro e w' ⟨rfl,⟨nd,rfl⟩⟩))
     go_meet
     case rel=>exact⟨_,(b4),zq6,H',⟨by have:=a2.out;first|omega|exact Nat.le_refl _⟩,zq8⟩
    ·rw [if_neg c3] at H;have a4:decide (a0<(l0.length:Int))=false:=decide_eq_false c3;clear c3;(first|rw [a4]|(simp only [i64_w,i32_w];rw [a4])|skip);have H':=zqm H;clear H
     go_wp2
     go_meet
     case rel=>exact⟨_,(false),zq6,H',⟨by have:=a2.out;first|omega|exact Nat.le_refl _⟩,zq8⟩
   case rest=>
    clear b9;obtain⟨kq,a3,rfl,HA,a6,⟨mc1,rfl⟩⟩:=hcut
    cases kq with
    |zero=>exact absurd HA.out (by simp [spec_LeastOf.j1])
    |succ c1=>
     have H:=HA.out;clear HA;simp only [spec_LeastOf.j1] at H
     by_cases c5:a3=true
     ·subst c5;(have H1:(spec_LeastOf.l1 c1 l0 a0 true 0)=some (r1,r2):=by rw [if_pos rfl] at H;exact H);clear H;have H:=H1;clear H1;have H':=zqm H;clear H
      go_wp2
      go_loopg [5,6] c1 (fun kq v5 v6 w'=> ∃(a5:Bool) (a1:Int),v5= .bool a5∧v6= .int .i64 a1∧Aside0 (spec_LeastOf.l1 kq l0 a0 a5 a1=some (r1,r2))∧Aside0 (kq≤c1)∧Drawn0 w w')
      case atStart=>exact⟨(true),(0),zq6,zq6,H',⟨Nat.le_refl _⟩,zq8⟩
      case round=>
       clear H';obtain⟨a5,a1,rfl,rfl,HA,a7,⟨m3,rfl⟩⟩:=hrel
       cases gk with
       |zero=>exact absurd HA.out (by simp [spec_LeastOf.l1])
       |succ k3=>
        have H:=HA.out;clear HA;simp only [spec_LeastOf.l1] at H
        by_cases c6:a1<(l0.length:Int)
        ·rw [if_pos c6] at H;have d0:decide (a1<(l0.length:Int))=true:=decide_eq_true c6;clear c6
         by_cases c7:a5=true
         ·subst c7;(have H1:(if 0≤a0 then(if a0<(l0.length:Int) then(if 0≤a1 then(if a1<((rd_L2 l0 a0).length:Int) then(spec_LeastOf.l1 k3 l0 a0 ((rd (rd_L2 l0 a0) a1)==1) (wrap64 (a1+1))) else(none)) else(none)) else(none)) else(none))=some (r1,r2):=by rw [if_pos rfl] at H;exact H);clear H;have H:=H1;clear H1
          by_cases c8:0≤a0
          ·rw [if_pos c8] at H;have e4:decide (0≤a0)=true:=decide_eq_true c8;clear c8
           by_cases c9:a0<(l0.length:Int)
           ·rw [if_pos c9] at H;have e5:decide (a0<(l0.length:Int))=true:=decide_eq_true c9;clear c9
            by_cases b5:0≤a1
            ·rw [if_pos b5] at H;have e2:decide (0≤a1)=true:=decide_eq_true b5;clear b5
             by_cases b6:a1<((rd_L2 l0 a0).length:Int)
             ·rw [if_pos b6] at H;have e3:decide (a1<((rd_L2 l0 a0).length:Int))=true:=decide_eq_true b6;clear b6;have H':=zqm H;clear H;have b0:0≤(a0:Int):=zqo;have b2:a0<(l0.length:Int):=zqo;obtain⟨e0,d6,d8,d1,d4,a9,a8⟩:=at_L2 c4.out a0 b0 b2
              cases d1
              have b8:=zqm a8;have d3:=zqm a9;clear a8 a9;replace b0:=eq_true b0;replace b2:=eq_true b2;have b1:0≤(a1:Int):=zqo;have b3:a1<((rd_L2 l0 a0).length:Int):=zqo;obtain⟨e1,d2,d5⟩:=Kd.at_int b8.out a1 b1 b3
              cases d2
              replace b1:=eq_true b1;replace b3:=eq_true b3
              go_wp2
              go_roundg k3
              (case measure=> exact zq138);case rel=>exact⟨(((rd (rd_L2 l0 a0) a1)==1)),(wrap64 (a1+1)),zq6,zq6,H',⟨zq138⟩,zq8⟩
             ·rw [if_neg b6] at H;exact absurd H (by simp)
            ·rw [if_neg b5] at H;exact absurd H (by simp)
           ·rw [if_neg c9] at H;exact absurd H (by simp)
          ·rw [if_neg c8] at H;exact absurd H (by simp)
         ·replace c7:=Bool.eq_false_iff.mpr c7;subst c7;(have H1:(spec_LeastOf.l1 k3 l0 a0 false (wrap64 (a1+1)))=some (r1,r2):=by rw [if_neg (show¬(false=true) by decide)] at H;exact H);clear H;have H:=H1;clear H1;have H':=zqm H;clear H
          go_wp2
          go_roundg k3
          (case measure=> exact zq138);case rel=>exact⟨(false),(wrap64 (a1+1)),zq6,zq6,H',⟨zq138⟩,zq8⟩
        ·rw [if_neg c6] at H;have d0:decide (a1<(l0.length:Int))=false:=decide_eq_false c6;clear c6
         by_cases b7:a5=true
         ·subst b7;(have H1:(some (a0,true))=some (r1,r2):=by rw [if_pos rfl] at H;exact H);clear H;have H:=H1;clear H1;simp only [Option.some.injEq,Prod.mk.injEq] at H;obtain⟨rfl,rfl⟩:=H
          go_wp2
          go_ret2
          exact⟨zq6,zq8⟩
         ·replace b7:=Bool.eq_false_iff.mpr b7;subst b7;(have H1:(spec_LeastOf.l0 k3 l0 (wrap64 (a0+1)))=some (r1,r2):=by rw [if_neg (show¬(false=true) by decide)] at H;exact H);clear H;have H:=H1;clear H1;have H':=zqm H;clear H
          go_wp2
          go_roundg k3
          (case measure=> exact zq138);case rel=>exact⟨(wrap64 (a0+1)),zq6,H',⟨zq138⟩,zq8⟩
     ·replace c5:=Bool.eq_false_iff.mpr c5;subst c5;(have H1:(some ((-1),false))=some (r1,r2):=by rw [if_neg (show¬(false=true) by decide)] at H;exact H);clear H;have H:=H1;clear H1;simp only [Option.some.injEq,Prod.mk.injEq] at H;obtain⟨rfl,rfl⟩:=H
      go_wp2
      go_ret2
      exact⟨zq6,zq8⟩
end
section
attribute [local go_sem] max2_int min2_int max_two min_two max_three min_three max_four min_four
mutual
def spec_LogicOk.j0 : Nat → Int → Bool → List (List Int) → List Int → Option (Bool)
 | 0, _, _, _, _ => none
 | k + 1, x3, x22, x492000, x492001 => if x22 = true then (some false) else (spec_LogicOk.l0 k x3 0 x492000 x492001)
def spec_LogicOk.l0 : Nat → Int → Int → List (List Int) → List Int → Option (Bool)
 | 0, _, _, _, _ => none
 | k + 1, x3, x4, x492000, x492001 => if x4 < x3 then (if 0 ≤ x4 then (if x4 < (x492001.length : Int) then ((spec_l1In.f (rd x492001 x4) 0 (wrap64 (x3 - 1))).bind fun t494 => (if t494 = true then (spec_LogicOk.l0 k x3 (wrap64 (x4 + 1)) x492000 x492001) else (some false))) else (none)) else (none)) else ((spec_LeastOf.f k x492000).bind fun bt495 => (spec_LogicOk.l1 k x3 bt495.1 0 x492000 x492001))
def spec_LogicOk.l1 : Nat → Int → Int → Int → List (List Int) → List Int → Option (Bool)
 | 0, _, _, _, _, _ => none
 | k + 1, x3, x5, x7, x492000, x492001 => if x7 < x3 then (if 0 ≤ x7 then (if x7 < (x492001.length : Int) then (if 0 ≤ (rd x492001 x7) then (if (rd x492001 x7) < (x492001.length : Int) then (if (rd x492001 (rd x492001 x7)) = x7 then ((spec_l1Meet.f k x492000 x7 (rd x492001 x7)).bind fun t500 => (spec_LogicOk.j3 k x3 x5 x7 (t500 != x5) x492000 x492001)) else (spec_LogicOk.j3 k x3 x5 x7 true x492000 x492001)) else (none)) else (none)) else (none)) else (none)) else (some true)
def spec_LogicOk.j3 : Nat → Int → Int → Int → Bool → List (List Int) → List Int → Option (Bool)
 | 0, _, _, _, _, _, _ => none
 | k + 1, x3, x5, x7, x71, x492000, x492001 => if x71 = true then (some false) else (spec_LogicOk.l2 k x3 x5 x7 0 x492000 x492001)
def spec_LogicOk.l2 : Nat → Int → Int → Int → Int → List (List Int) → List Int → Option (Bool)
 | 0, _, _, _, _, _, _ => none
 | k + 1, x3, x5, x7, x8, x492000, x492001 => if x8 < x3 then (if 0 ≤ x7 then (if x7 < (x492000.length : Int) then (if 0 ≤ x8 then (if x8 < ((rd_L2 x492000 x7).length : Int) then (if (rd (rd_L2 x492000 x7) x8) = 1 then (if x8 < (x492001.length : Int) then (if 0 ≤ (rd x492001 x8) then (if (rd x492001 x8) < (x492000.length : Int) then (if x7 < (x492001.length : Int) then (if 0 ≤ (rd x492001 x7) then (if (rd x492001 x7) < ((rd_L2 x492000 (rd x492001 x8)).length : Int) then (if (rd (rd_L2 x492000 (rd x492001 x8)) (rd x492001 x7)) = 0 then (some false) else (spec_LogicOk.l2 k x3 x5 x7 (wrap64 (x8 + 1)) x492000 x492001)) else (none)) else (none)) else (none)) else (none)) else (none)) else (none)) else (spec_LogicOk.l2 k x3 x5 x7 (wrap64 (x8 + 1)) x492000 x492001)) else (none)) else (none)) else (none)) else (none)) else (spec_LogicOk.l1 k x3 x5 (wrap64 (x7 + 1)) x492000 x492001)
end
def spec_LogicOk.f (k : Nat) (l0_0 : List (List Int)) (l0_1 : List Int) : Option (Bool) := (spec_LatticeOk.f k l0_0).bind fun t492 => (if t492 = true then (spec_LogicOk.j0 k (l0_0.length : Int) ((l0_1.length : Int) != (l0_0.length : Int)) l0_0 l0_1) else (spec_LogicOk.j0 k (l0_0.length : Int) true l0_0 l0_1))
set_option maxHeartbeats 8000000 in
set_option maxRecDepth 100000 in
theorem spec_LogicOk.calls (k : Nat) (A0_0 : Option Addr) (c0_0 : Nat) (l0_0 : List (List Int)) (A0_1 : Option Addr) (c0_1 : Nat) (l0_1 : List Int) (r : Bool) (w : World) (hr0_0 : Kd.C (Kd.slice 3 (Kd.int .i64)) w A0_0 l0_0.length l0_0) (hc0_0 : l0_0.length ≤ c0_0) (hr0_1 : Kd.C (Kd.int .i64) w A0_1 l0_1.length l0_1) (hc0_1 : l0_1.length ≤ c0_1) (h : spec_LogicOk.f k l0_0 l0_1 = some r) :
  Calls Try.prog 17 #[.agg #[.slice A0_0 l0_0.length c0_0, .slice A0_1 l0_1.length c0_1]] w fun e w' => e = .returned (.bool r) ∧ Below w.heap.size w w' := by
 have hu26:=Try.underlying26;have a6:=zqm hr0_0;have a9:=zqm hc0_0;clear hr0_0 hc0_0;have b2:=zqm hr0_1;have s6:=zqm hc0_1;clear hr0_1 hc0_1;have HB:=zqm (Below.refl w.heap.size w);have H:((spec_LatticeOk.f k l0_0).bind fun i7=>(if i7=true then(spec_LogicOk.j0 k (l0_0.length:Int) ((l0_1.length:Int) !=(l0_0.length:Int)) l0_0 l0_1) else(spec_LogicOk.j0 k (l0_0.length:Int) true l0_0 l0_1)))=some r:=h;clear h;have m5:=zqm H;clear H
 go_enter Try.func17,Try.ntmps17
 go_upto_region 2 with (first|((with_reducible refine gate_dst (N:=1) rfl ?_);(try(refine gate_guard (by rfl) ?_;dsimp only));refine box_event ?hg (N:=1) ?hd (cs:= #[.slice A0_0 l0_0.length c0_0,.slice A0_1 l0_1.length c0_1]) (t:=26) ?hr ?_;(case hd=>rfl);(case hg=>rfl);(case hr=> exact zq9);intro a3 hg w3 hbox hb;have f1:=zqm (below_step zq2 hb);have a1:=zqm (hbox);have i9:=zqm ((by rw [hg];exact(below_size zq2):w.heap.size≤a3));have a5:=zqm ((by rw [hg];exact(below_size zq2):w.heap.size≤a3));clear HB;have HB:=f1;clear f1 hb hbox hg;have h3:w3.cell? ⟨a3,0,none⟩=some (.slice A0_0 l0_0.length c0_0):=(blk_cell a1.out 0).trans rfl;have h4:w3.cell? ⟨a3,1,none⟩=some (.slice A0_1 l0_1.length c0_1):=(blk_cell a1.out 1).trans rfl;have h5:=blk_frozen a1.out 0;have h6:=blk_frozen a1.out 1))
 repeat(go_quiet (first|((with_reducible refine gate_dst (N:=1) rfl ?_);(try(refine gate_guard (by rfl) ?_;dsimp only));refine box_event ?hg (N:=1) ?hd (cs:= #[.slice A0_0 l0_0.length c0_0,.slice A0_1 l0_1.length c0_1]) (t:=26) ?hr ?_;(case hd=>rfl);(case hg=>rfl);(case hr=> exact zq9);intro a3 hg w3 hbox hb;have f1:=zqm (below_step zq2 hb);have a1:=zqm (hbox);have i9:=zqm ((by rw [hg];exact(below_size zq2):w.heap.size≤a3));have a5:=zqm ((by rw [hg];exact(below_size zq2):w.heap.size≤a3));clear HB;have HB:=f1;clear f1 hb hbox hg;have h3:w3.cell? ⟨a3,0,none⟩=some (.slice A0_0 l0_0.length c0_0):=(blk_cell a1.out 0).trans rfl;have h4:w3.cell? ⟨a3,1,none⟩=some (.slice A0_1 l0_1.length c0_1):=(blk_cell a1.out 1).trans rfl;have h5:=blk_frozen a1.out 0;have h6:=blk_frozen a1.out 1));go_upto_region 2 with (first|((with_reducible refine gate_dst (N:=1) rfl ?_);(try(refine gate_guard (by rfl) ?_;dsimp only));refine box_event ?hg (N:=1) ?hd (cs:= #[.slice A0_0 l0_0.length c0_0,.slice A0_1 l0_1.length c0_1]) (t:=26) ?hr ?_;(case hd=>rfl);(case hg=>rfl);(case hr=> exact zq9);intro a3 hg w3 hbox hb;have f1:=zqm (below_step zq2 hb);have a1:=zqm (hbox);have i9:=zqm ((by rw [hg];exact(below_size zq2):w.heap.size≤a3));have a5:=zqm ((by rw [hg];exact(below_size zq2):w.heap.size≤a3));clear HB;have HB:=f1;clear f1 hb hbox hg;have h3:w3.cell? ⟨a3,0,none⟩=some (.slice A0_0 l0_0.length c0_0):=(blk_cell a1.out 0).trans rfl;have h4:w3.cell? ⟨a3,1,none⟩=some (.slice A0_1 l0_1.length c0_1):=(blk_cell a1.out 1).trans rfl;have h5:=blk_frozen a1.out 0;have h6:=blk_frozen a1.out 1)))
 (try simp only [Act.put,List.setIfInBounds_toArray,List.set_cons_zero,List.set_cons_succ])
 go_cut [22] (fun s4 wc=> ∃(kq:Nat) (f4:Bool),s4= .bool f4∧Aside0 (spec_LogicOk.j0 kq (l0_0.length:Int) f4 l0_0 l0_1=some r)∧Aside0 (kq≤k)∧Aside0 (wc.heap[a3]? =some (.cells #[(.slice A0_0 l0_0.length c0_0),(.slice A0_1 l0_1.length c0_1)] 26 (0,0)))∧Aside0 (Below w.heap.size w wc))
 case first=>
  have H:=m5.out;clear m5;replace H:=Option.bind_eq_some_iff.mp H;obtain⟨i7,o0,H⟩:=H;(try dsimp only at H);have A5:=zqm o0;clear o0
  by_cases c6:i7=true
  ·subst c6;rw [if_pos rfl] at H;have H':=zqm H;clear H;have r6:w3.cell? ⟨a3,0,none⟩=some (.slice A0_0 l0_0.length c0_0):=(blk_cell a1.out 0).trans rfl;have r7:w3.cell? ⟨a3,1,none⟩=some (.slice A0_1 l0_1.length c0_1):=(blk_cell a1.out 1).trans rfl;have s0:=blk_frozen a1.out 0;have s1:=blk_frozen a1.out 1
   go_wp2_with (first|(go_at_call 77;(with_reducible refine(spec_LatticeOk.calls k _ _ l0_0 true _ ?side1 ?side2 A5.out).mono ?_);(case side1=> exact zq18);(case side2=>exact a9.out);rintro e w' ⟨rfl,⟨nd,rfl⟩⟩;(try first|exact⟨rfl,_,World.drewN_drewN _ _ _⟩|exact⟨rfl,_,Eq.trans (World.drewN_drewN _ _ _) (congrArg (World.drewN _) (Nat.add_assoc _ _ _))⟩)))
   repeat(go_quiet (first|(go_at_call 77;(with_reducible refine(spec_LatticeOk.calls k _ _ l0_0 true _ ?side1 ?side2 A5.out).mono ?_);(case side1=> exact zq18);(case side2=>exact a9.out);rintro e w' ⟨rfl,⟨nd,rfl⟩⟩;(try first|exact⟨rfl,_,World.drewN_drewN _ _ _⟩|exact⟨rfl,_,Eq.trans (World.drewN_drewN _ _ _) (congrArg (World.drewN _) (Nat.add_assoc _ _ _))⟩)));try go_wp2_with (first|(go_at_call 77;(with_reducible refine(spec_LatticeOk.calls k _ _ l0_0 true _ ?side1 ?side2 A5.out).mono ?_);(case side1=> exact zq18);(case side2=>exact a9.out);rintro e w' ⟨rfl,⟨nd,rfl⟩⟩;(try first|exact⟨rfl,_,World.drewN_drewN _ _ _⟩|exact⟨rfl,_,Eq.trans (World.drewN_drewN _ _ _) (congrArg (World.drewN _) (Nat.add_assoc _ _ _))⟩))))
   go_meet
   case rel=>exact⟨_,(((l0_1.length:Int) !=(l0_0.length:Int))),zq6,H',⟨zq144⟩,⟨zqe a1.out⟩,⟨zq19⟩⟩
  ·replace c6:=Bool.eq_false_iff.mpr c6;subst c6;rw [if_neg (show¬(false=true) by decide)] at H;have H':=zqm H;clear H;have r8:w3.cell? ⟨a3,0,none⟩=some (.slice A0_0 l0_0.length c0_0):=(blk_cell a1.out 0).trans rfl;have r9:w3.cell? ⟨a3,1,none⟩=some (.slice A0_1 l0_1.length c0_1):=(blk_cell a1.out 1).trans rfl;have s2:=blk_frozen a1.out 0;have s3:=blk_frozen a1.out 1
   go_wp2_with (first|(go_at_call 77;(with_reducible refine(spec_LatticeOk.calls k _ _ l0_0 false _ ?side1 ?side2 A5.out).mono ?_);(case side1=> exact zq18);(case side2=>exact a9.out);rintro e w' ⟨rfl,⟨nd,rfl⟩⟩;(try first|exact⟨rfl,_,World.drewN_drewN _ _ _⟩|exact⟨rfl,_,Eq.trans (World.drewN_drewN _ _ _) (congrArg (World.drewN _) (Nat.add_assoc _ _ _))⟩)))
   repeat(go_quiet (first|(go_at_call 77;(with_reducible refine(spec_LatticeOk.calls k _ _ l0_0 false _ ?side1 ?side2 A5.out).mono ?_);(case side1=> exact zq18);(case side2=>exact a9.out);rintro e w' ⟨rfl,⟨nd,rfl⟩⟩;(try first|exact⟨rfl,_,World.drewN_drewN _ _ _⟩|exact⟨rfl,_,Eq.trans (World.drewN_drewN _ _ _) (congrArg (World.drewN _) (Nat.add_assoc _ _ _))⟩)));try go_wp2_with (first|(go_at_call 77;(with_reducible refine(spec_LatticeOk.calls k _ _ l0_0 false _ ?side1 ?side2 A5.out).mono ?_);(case side1=> exact zq18);(case side2=>exact a9.out);rintro e w' ⟨rfl,⟨nd,rfl⟩⟩;(try first|exact⟨rfl,_,World.drewN_drewN _ _ _⟩|exact⟨rfl,_,Eq.trans (World.drewN_drewN _ _ _) (congrArg (World.drewN _) (Nat.add_assoc _ _ _))⟩))))
   go_meet
   case rel=>exact⟨_,(true),zq6,H',⟨zq144⟩,⟨zqe a1.out⟩,⟨zq19⟩⟩
 case rest=>
  clear m5;obtain⟨kq,f4,rfl,HA,c8,a1,HB⟩:=hcut
  cases kq with
  |zero=>exact absurd HA.out (by simp [spec_LogicOk.j0])
  |succ o1=>
   have H:=HA.out;clear HA;simp only [spec_LogicOk.j0] at H
   by_cases c9:f4=true
   ·subst c9;rw [if_pos rfl] at H;obtain rfl:=Option.some.inj H
    go_wp2
    repeat(go_quiet (fail);try go_wp2)
    go_ret
    exact⟨zq13,zq19⟩
   ·replace c9:=Bool.eq_false_iff.mpr c9;subst c9;rw [if_neg (show¬(false=true) by decide)] at H;have H':=zqm H;clear H
    go_wp2
    repeat(go_quiet (fail);try go_wp2)
    go_loopg [4] o1 (fun kq v4 w'=> ∃(a4:Int),v4= .int .i64 a4∧Aside0 (spec_LogicOk.l0 kq (l0_0.length:Int) a4 l0_0 l0_1=some r)∧Aside0 (kq≤o1)∧Aside0 (w'.heap[a3]? =some (.cells #[(.slice A0_0 l0_0.length c0_0),(.slice A0_1 l0_1.length c0_1)] 26 (0,0)))∧Aside0 (Below w.heap.size w w'))
    case atStart=>exact⟨(0),zq6,H',⟨Nat.le_refl _⟩,⟨zqe a1.out⟩,⟨zq19⟩⟩
    case round=>
     clear H';obtain⟨a4,rfl,HA,d0,a1,HB⟩:=hrel
     cases gk with
     |zero=>exact absurd HA.out (by simp [spec_LogicOk.l0])
     |succ k2=>
      have H:=HA.out;clear HA;simp only [spec_LogicOk.l0] at H
      by_cases g3:a4<(l0_0.length:Int)
      ·rw [if_pos g3] at H;have n1:decide (a4<(l0_0.length:Int))=true:=decide_eq_true g3;clear g3
       by_cases j2:0≤a4
       ·rw [if_pos j2] at H;have s7:decide (0≤a4)=true:=decide_eq_true j2;clear j2
        by_cases j4:a4<(l0_1.length:Int)
        ·rw [if_pos j4] at H;have s8:decide (a4<(l0_1.length:Int))=true:=decide_eq_true j4;clear j4;replace H:=Option.bind_eq_some_iff.mp H;obtain⟨o3,l9,H⟩:=H;(try dsimp only at H);have g0:=zqm l9;clear l9
         by_cases j5:o3=true
         ·subst j5;rw [if_pos rfl] at H;have H':=zqm H;clear H;have o4:wr.cell? ⟨a3,0,none⟩=some (.slice A0_0 l0_0.length c0_0):=(blk_cell a1.out 0).trans rfl;have o5:wr.cell? ⟨a3,1,none⟩=some (.slice A0_1 l0_1.length c0_1):=(blk_cell a1.out 1).trans rfl;have q0:=blk_frozen a1.out 0;have q1:=blk_frozen a1.out 1;have d1:0≤(a4:Int):=zqo;have d8:a4<(l0_1.length:Int):=zqo;obtain⟨m8,h8,b3⟩:=Kd.at_int b2.out a4 d1 d8
          cases h8
          replace b3:=(HB.out.cell (World.block_lt_of_cell? w _ b3)).trans b3;replace d1:=eq_true d1;replace d8:=eq_true d8
          go_wp2_with (first|(go_at_call 78;(with_reducible refine(spec_l1In.calls (rd l0_1 a4) 0 (wrap64 ((l0_0.length:Int) - 1)) true _ g0.out).mono ?_);rintro e w' ⟨rfl,⟨nd,rfl⟩⟩;(try first|exact⟨rfl,_,World.drewN_drewN _ _ _⟩|exact⟨rfl,_,Eq.trans (World.drewN_drewN _ _ _) (congrArg (World.drewN _) (Nat.add_assoc _ _ _))⟩)))
          repeat(go_quiet (first|(go_at_call 78;(with_reducible refine(spec_l1In.calls (rd l0_1 a4) 0 (wrap64 ((l0_0.length:Int) - 1)) true _ g0.out).mono ?_);rintro e w' ⟨rfl,⟨nd,rfl⟩⟩;(try first|exact⟨rfl,_,World.drewN_drewN _ _ _⟩|exact⟨rfl,_,Eq.trans (World.drewN_drewN _ _ _) (congrArg (World.drewN _) (Nat.add_assoc _ _ _))⟩)));try go_wp2_with (first|(go_at_call 78;(with_reducible refine(spec_l1In.calls (rd l0_1 a4) 0 (wrap64 ((l0_0.length:Int) - 1)) true _ g0.out).mono ?_);rintro e w' ⟨rfl,⟨nd,rfl⟩⟩;(try first|exact⟨rfl,_,World.drewN_drewN _ _ _⟩|exact⟨rfl,_,Eq.trans (World.drewN_drewN _ _ _) (congrArg (World.drewN _) (Nat.add_assoc _ _ _))⟩))))
          go_roundg k2
          (case measure=>have:=c8.out;have:=d0.out;omega);case rel=>exact⟨(wrap64 (a4+1)),zq6,H',⟨by have:=c8.out;have:=d0.out;omega⟩,⟨zqe a1.out⟩,⟨zq19⟩⟩
         ·replace j5:=Bool.eq_false_iff.mpr j5;subst j5;rw [if_neg (show¬(false=true) by decide)] at H;obtain rfl:=Option.some.inj H;have o6:wr.cell? ⟨a3,0,none⟩=some (.slice A0_0 l0_0.length c0_0):=(blk_cell a1.out 0).trans rfl;have o7:wr.cell? ⟨a3,1,none⟩=some (.slice A0_1 l0_1.length c0_1):=(blk_cell a1.out 1).trans rfl;have q2:=blk_frozen a1.out 0;have q3:=blk_frozen a1.out 1;have d1:0≤(a4:Int):=zqo;have d8:a4<(l0_1.length:Int):=zqo;obtain⟨m8,h8,b3⟩:=Kd.at_int b2.out a4 d1 d8
          cases h8
          replace b3:=(HB.out.cell (World.block_lt_of_cell? w _ b3)).trans b3;replace d1:=eq_true d1;replace d8:=eq_true d8
          go_wp2_with (first|(go_at_call 78;(with_reducible refine(spec_l1In.calls (rd l0_1 a4) 0 (wrap64 ((l0_0.length:Int) - 1)) false _ g0.out).mono ?_);rintro e w' ⟨rfl,⟨nd,rfl⟩⟩;(try first|exact⟨rfl,_,World.drewN_drewN _ _ _⟩|exact⟨rfl,_,Eq.trans (World.drewN_drewN _ _ _) (congrArg (World.drewN _) (Nat.add_assoc _ _ _))⟩)))
          repeat(go_quiet (first|(go_at_call 78;(with_reducible refine(spec_l1In.calls (rd l0_1 a4) 0 (wrap64 ((l0_0.length:Int) - 1)) false _ g0.out).mono ?_);rintro e w' ⟨rfl,⟨nd,rfl⟩⟩;(try first|exact⟨rfl,_,World.drewN_drewN _ _ _⟩|exact⟨rfl,_,Eq.trans (World.drewN_drewN _ _ _) (congrArg (World.drewN _) (Nat.add_assoc _ _ _))⟩)));try go_wp2_with (first|(go_at_call 78;(with_reducible refine(spec_l1In.calls (rd l0_1 a4) 0 (wrap64 ((l0_0.length:Int) - 1)) false _ g0.out).mono ?_);rintro e w' ⟨rfl,⟨nd,rfl⟩⟩;(try first|exact⟨rfl,_,World.drewN_drewN _ _ _⟩|exact⟨rfl,_,Eq.trans (World.drewN_drewN _ _ _) (congrArg (World.drewN _) (Nat.add_assoc _ _ _))⟩))))
          go_ret
          exact⟨zq13,zq19⟩
        ·rw [if_neg j4] at H;exact absurd H (by simp)
       ·rw [if_neg j2] at H;exact absurd H (by simp)
      ·rw [if_neg g3] at H;have n1:decide (a4<(l0_0.length:Int))=false:=decide_eq_false g3;clear g3;replace H:=Option.bind_eq_some_iff.mp H;obtain⟨⟨e5,i8⟩,m1,H⟩:=H;(try dsimp only at H);have m0:=zqm m1;clear m1;have H':=zqm H;clear H;have o8:wr.cell? ⟨a3,0,none⟩=some (.slice A0_0 l0_0.length c0_0):=(blk_cell a1.out 0).trans rfl;have o9:wr.cell? ⟨a3,1,none⟩=some (.slice A0_1 l0_1.length c0_1):=(blk_cell a1.out 1).trans rfl;have q4:=blk_frozen a1.out 0;have q5:=blk_frozen a1.out 1
       go_wp2_with (first|(go_at_call 79;(with_reducible refine(spec_LeastOf.calls k2 _ _ l0_0 e5 i8 _ ?side1 ?side2 m0.out).mono ?_);(case side1=> exact zq18);(case side2=>exact a9.out);rintro e w' ⟨rfl,⟨nd,rfl⟩⟩;(try first|exact⟨rfl,_,World.drewN_drewN _ _ _⟩|exact⟨rfl,_,Eq.trans (World.drewN_drewN _ _ _) (congrArg (World.drewN _) (Nat.add_assoc _ _ _))⟩)))
       repeat(go_quiet (first|(go_at_call 79;(with_reducible refine(spec_LeastOf.calls k2 _ _ l0_0 e5 i8 _ ?side1 ?side2 m0.out).mono ?_);(case side1=> exact zq18);(case side2=>exact a9.out);rintro e w' ⟨rfl,⟨nd,rfl⟩⟩;(try first|exact⟨rfl,_,World.drewN_drewN _ _ _⟩|exact⟨rfl,_,Eq.trans (World.drewN_drewN _ _ _) (congrArg (World.drewN _) (Nat.add_assoc _ _ _))⟩)));try go_wp2_with (first|(go_at_call 79;(with_reducible refine(spec_LeastOf.calls k2 _ _ l0_0 e5 i8 _ ?side1 ?side2 m0.out).mono ?_);(case side1=> exact zq18);(case side2=>exact a9.out);rintro e w' ⟨rfl,⟨nd,rfl⟩⟩;(try first|exact⟨rfl,_,World.drewN_drewN _ _ _⟩|exact⟨rfl,_,Eq.trans (World.drewN_drewN _ _ _) (congrArg (World.drewN _) (Nat.add_assoc _ _ _))⟩))))
       go_loopg [7] k2 (fun kq v7 w'=> ∃(a0:Int),v7= .int .i64 a0∧Aside0 (spec_LogicOk.l1 kq (l0_0.length:Int) e5 a0 l0_0 l0_1=some r)∧Aside0 (kq≤k2)∧Aside0 (w'.heap[a3]? =some (.cells #[(.slice A0_0 l0_0.length c0_0),(.slice A0_1 l0_1.length c0_1)] 26 (0,0)))∧Aside0 (Below w.heap.size w w'))
       case atStart=>exact⟨(0),zq6,H',⟨Nat.le_refl _⟩,⟨zqe a1.out⟩,⟨zq19⟩⟩
       case round=>
        clear H';obtain⟨a0,rfl,HA,f0,a1,HB⟩:=hrel
        cases gk with
        |zero=>exact absurd HA.out (by simp [spec_LogicOk.l1])
        |succ k3=>
         have H:=HA.out;clear HA;simp only [spec_LogicOk.l1] at H
         by_cases g4:a0<(l0_0.length:Int)
         ·rw [if_pos g4] at H;have n2:decide (a0<(l0_0.length:Int))=true:=decide_eq_true g4;clear g4;have h7:=zqm H;clear H
          go_upto_region 13 with (fail)
          repeat(go_quiet (fail);go_upto_region 13 with (fail))
          go_cut [71] (fun s5 wc=> ∃(kq:Nat) (e6:Bool),s5= .bool e6∧Aside0 (spec_LogicOk.j3 kq (l0_0.length:Int) e5 a0 e6 l0_0 l0_1=some r)∧Aside0 (kq≤k3)∧Aside0 (wc.heap[a3]? =some (.cells #[(.slice A0_0 l0_0.length c0_0),(.slice A0_1 l0_1.length c0_1)] 26 (0,0)))∧Aside0 (Below w.heap.size w wc))
          case first=>
           have H:=h7.out;clear h7
           by_cases j6:0≤a0
           ·rw [if_pos j6] at H;have j7:decide (0≤a0)=true:=decide_eq_true j6;clear j6;(first|rw [j7]|(simp only [i64_w,i32_w];rw [j7])|skip)
            by_cases j8:a0<(l0_1.length:Int)
            ·rw [if_pos j8] at H;have s9:decide (a0<(l0_1.length:Int))=true:=decide_eq_true j8;clear j8
             by_cases j9:0≤(rd l0_1 a0)
             ·rw [if_pos j9] at H;have t0:decide (0≤(rd l0_1 a0))=true:=decide_eq_true j9;clear j9
              by_cases k0:(rd l0_1 a0)<(l0_1.length:Int)
              ·rw [if_pos k0] at H;have t1:decide ((rd l0_1 a0)<(l0_1.length:Int))=true:=decide_eq_true k0;clear k0
               by_cases f5:(rd l0_1 (rd l0_1 a0))=a0
               ·rw [if_pos f5] at H;have n3:((rd l0_1 (rd l0_1 a0))==a0)=true:=beq_iff_eq.mpr f5;have n4:((rd l0_1 (rd l0_1 a0)) !=a0)=false:=bne_eq_false_iff_eq.mpr f5;clear f5;replace H:=Option.bind_eq_some_iff.mp H;obtain⟨h0,m3,H⟩:=H;(try dsimp only at H);have m2:=zqm m3;clear m3;have H':=zqm H;clear H;have p0:wr.cell? ⟨a3,0,none⟩=some (.slice A0_0 l0_0.length c0_0):=(blk_cell a1.out 0).trans rfl;have p1:wr.cell? ⟨a3,1,none⟩=some (.slice A0_1 l0_1.length c0_1):=(blk_cell a1.out 1).trans rfl;have q6:=blk_frozen a1.out 0;have q7:=blk_frozen a1.out 1;have d2:0≤(a0:Int):=zqo;have d9:a0<(l0_1.length:Int):=zqo;obtain⟨f2,h9,b4⟩:=Kd.at_int b2.out a0 d2 d9
                cases h9
                replace b4:=(HB.out.cell (World.block_lt_of_cell? w _ b4)).trans b4;replace d2:=eq_true d2;replace d9:=eq_true d9;have d3:0≤((rd l0_1 a0):Int):=zqo;have e0:(rd l0_1 a0)<(l0_1.length:Int):=zqo;obtain⟨g6,i0,b5⟩:=Kd.at_int b2.out (rd l0_1 a0) d3 e0;obtain rfl:f2=g6:=(by injection i0);replace b5:=(HB.out.cell (World.block_lt_of_cell? w _ b5)).trans b5;replace d3:=eq_true d3;replace e0:=eq_true e0;have i5:0≤(a0:Int):=zqo;have i6:a0<(l0_1.length:Int):=zqo;obtain⟨m9,o2,e9⟩:=Kd.at_int b2.out a0 i5 i6;obtain rfl:f2=m9:=(by injection o2);replace e9:=(HB.out.cell (World.block_lt_of_cell? w _ e9)).trans e9;replace i5:=eq_true i5;replace i6:=eq_true i6
                go_wp2_with (first|(go_at_call 80;(with_reducible refine(spec_l1Meet.calls k3 _ _ l0_0 a0 (rd l0_1 a0) h0 _ ?side1 ?side2 m2.out).mono ?_);(case side1=> exact zq18);(case side2=>exact a9.out);rintro e w' ⟨rfl,⟨nd,rfl⟩⟩;(try first|exact⟨rfl,_,World.drewN_drewN _ _ _⟩|exact⟨rfl,_,Eq.trans (World.drewN_drewN _ _ _) (congrArg (World.drewN _) (Nat.add_assoc _ _ _))⟩)))
                repeat(go_quiet (first|(go_at_call 80;(with_reducible refine(spec_l1Meet.calls k3 _ _ l0_0 a0 (rd l0_1 a0) h0 _ ?side1 ?side2 m2.out).mono ?_);(case side1=> exact zq18);(case side2=>exact a9.out);rintro e w' ⟨rfl,⟨nd,rfl⟩⟩;(try first|exact⟨rfl,_,World.drewN_drewN _ _ _⟩|exact⟨rfl,_,Eq.trans (World.drewN_drewN _ _ _) (congrArg (World.drewN _) (Nat.add_assoc _ _ _))⟩)));try go_wp2_with (first|(go_at_call 80;(with_reducible refine(spec_l1Meet.calls k3 _ _ l0_0 a0 (rd l0_1 a0) h0 _ ?side1 ?side2 m2.out).mono ?_);(case side1=> exact zq18);(case side2=>exact a9.out);rintro e w' ⟨rfl,⟨nd,rfl⟩⟩;(try first|exact⟨rfl,_,World.drewN_drewN _ _ _⟩|exact⟨rfl,_,Eq.trans (World.drewN_drewN _ _ _) (congrArg (World.drewN _) (Nat.add_assoc _ _ _))⟩))))
                go_meet
                case rel=>exact⟨_,((h0 !=e5)),zq6,H',⟨zq184⟩,⟨zqe a1.out⟩,⟨zq19⟩⟩
               ·rw [if_neg f5] at H;have n3:((rd l0_1 (rd l0_1 a0))==a0)=false:=beq_eq_false_iff_ne.mpr f5;have n4:((rd l0_1 (rd l0_1 a0)) !=a0)=true:=bne_iff_ne.mpr f5;have H':=zqm H;clear H;have p2:wr.cell? ⟨a3,0,none⟩=some (.slice A0_0 l0_0.length c0_0):=(blk_cell a1.out 0).trans rfl;have p3:wr.cell? ⟨a3,1,none⟩=some (.slice A0_1 l0_1.length c0_1):=(blk_cell a1.out 1).trans rfl;have q8:=blk_frozen a1.out 0;have q9:=blk_frozen a1.out 1;have d2:0≤(a0:Int):=zqo;have d9:a0<(l0_1.length:Int):=zqo;obtain⟨f2,h9,b4⟩:=Kd.at_int b2.out a0 d2 d9
                cases h9
                replace b4:=(HB.out.cell (World.block_lt_of_cell? w _ b4)).trans b4;replace d2:=eq_true d2;replace d9:=eq_true d9;have d3:0≤((rd l0_1 a0):Int):=zqo;have e0:(rd l0_1 a0)<(l0_1.length:Int):=zqo;obtain⟨g6,i0,b5⟩:=Kd.at_int b2.out (rd l0_1 a0) d3 e0;obtain rfl:f2=g6:=(by injection i0);replace b5:=(HB.out.cell (World.block_lt_of_cell? w _ b5)).trans b5;replace d3:=eq_true d3;replace e0:=eq_true e0
                go_wp2
                repeat(go_quiet (fail);try go_wp2)
                go_meet
                case rel=>exact⟨_,(true),zq6,H',⟨zq184⟩,⟨zqe a1.out⟩,⟨zq19⟩⟩
              ·rw [if_neg k0] at H;exact absurd H (by simp)
             ·rw [if_neg j9] at H;exact absurd H (by simp)
            ·rw [if_neg j8] at H;exact absurd H (by simp)
           ·rw [if_neg j6] at H;exact absurd H (by simp)
          case rest=>
           clear h7;obtain⟨kq,e6,rfl,HA,e7,a1,HB⟩:=hcut
           cases kq with
           |zero=>exact absurd HA.out (by simp [spec_LogicOk.j3])
           |succ m7=>
            have H:=HA.out;clear HA;simp only [spec_LogicOk.j3] at H
            by_cases k1:e6=true
            ·subst k1;rw [if_pos rfl] at H;obtain rfl:=Option.some.inj H
             go_wp2
             repeat(go_quiet (fail);try go_wp2)
             go_ret
             exact⟨zq13,zq19⟩
            ·replace k1:=Bool.eq_false_iff.mpr k1;subst k1;rw [if_neg (show¬(false=true) by decide)] at H;have H':=zqm H;clear H
             go_wp2
             repeat(go_quiet (fail);try go_wp2)
             go_loopg [8] m7 (fun kq v8 w'=> ∃(a2:Int),v8= .int .i64 a2∧Aside0 (spec_LogicOk.l2 kq (l0_0.length:Int) e5 a0 a2 l0_0 l0_1=some r)∧Aside0 (kq≤m7)∧Aside0 (w'.heap[a3]? =some (.cells #[(.slice A0_0 l0_0.length c0_0),(.slice A0_1 l0_1.length c0_1)] 26 (0,0)))∧Aside0 (Below w.heap.size w w'))
             case atStart=>exact⟨(0),zq6,H',⟨Nat.le_refl _⟩,⟨zqe a1.out⟩,⟨zq19⟩⟩
             case round=>
              clear H';obtain⟨a2,rfl,HA,g2,a1,HB⟩:=hrel
              cases gk with
              |zero=>exact absurd HA.out (by simp [spec_LogicOk.l2])
              |succ k5=>
               have H:=HA.out;clear HA;simp only [spec_LogicOk.l2] at H
               by_cases g5:a2<(l0_0.length:Int)
               ·rw [if_pos g5] at H;have n5:decide (a2<(l0_0.length:Int))=true:=decide_eq_true g5;clear g5
                by_cases k4:0≤a0
                ·rw [if_pos k4] at H;have t2:decide (0≤a0)=true:=decide_eq_true k4;clear k4
                 by_cases k6:a0<(l0_0.length:Int)
                 ·rw [if_pos k6] at H;have t3:decide (a0<(l0_0.length:Int))=true:=decide_eq_true k6;clear k6
                  by_cases k7:0≤a2
                  ·rw [if_pos k7] at H;have t4:decide (0≤a2)=true:=decide_eq_true k7;clear k7
                   by_cases k8:a2<((rd_L2 l0_0 a0).length:Int)
                   ·rw [if_pos k8] at H;have t5:decide (a2<((rd_L2 l0_0 a0).length:Int))=true:=decide_eq_true k8;clear k8
                    by_cases f6:(rd (rd_L2 l0_0 a0) a2)=1
                    ·rw [if_pos f6] at H;have n6:((rd (rd_L2 l0_0 a0) a2)==1)=true:=beq_iff_eq.mpr f6;have n7:((rd (rd_L2 l0_0 a0) a2) !=1)=false:=bne_eq_false_iff_eq.mpr f6;clear f6
                     by_cases k9:a2<(l0_1.length:Int)
                     ·rw [if_pos k9] at H;have t6:decide (a2<(l0_1.length:Int))=true:=decide_eq_true k9;clear k9
                      by_cases l3:0≤(rd l0_1 a2)
                      ·rw [if_pos l3] at H;have t7:decide (0≤(rd l0_1 a2))=true:=decide_eq_true l3;clear l3
                       by_cases l4:(rd l0_1 a2)<(l0_0.length:Int)
                       ·rw [if_pos l4] at H;have t8:decide ((rd l0_1 a2)<(l0_0.length:Int))=true:=decide_eq_true l4;clear l4
                        by_cases l5:a0<(l0_1.length:Int)
                        ·rw [if_pos l5] at H;have t9:decide (a0<(l0_1.length:Int))=true:=decide_eq_true l5;clear l5
                         by_cases l6:0≤(rd l0_1 a0)
                         ·rw [if_pos l6] at H;have u0:decide (0≤(rd l0_1 a0))=true:=decide_eq_true l6;clear l6
                          by_cases l7:(rd l0_1 a0)<((rd_L2 l0_0 (rd l0_1 a2)).length:Int)
                          ·rw [if_pos l7] at H;have u1:decide ((rd l0_1 a0)<((rd_L2 l0_0 (rd l0_1 a2)).length:Int))=true:=decide_eq_true l7;clear l7
                           by_cases f7:(rd (rd_L2 l0_0 (rd l0_1 a2)) (rd l0_1 a0))=0
                           ·rw [if_pos f7] at H;have n8:((rd (rd_L2 l0_0 (rd l0_1 a2)) (rd l0_1 a0))==0)=true:=beq_iff_eq.mpr f7;have n9:((rd (rd_L2 l0_0 (rd l0_1 a2)) (rd l0_1 a0)) !=0)=false:=bne_eq_false_iff_eq.mpr f7;clear f7;obtain rfl:=Option.some.inj H;have p4:wr.cell? ⟨a3,0,none⟩=some (.slice A0_0 l0_0.length c0_0):=(blk_cell a1.out 0).trans rfl;have p5:wr.cell? ⟨a3,1,none⟩=some (.slice A0_1 l0_1.length c0_1):=(blk_cell a1.out 1).trans rfl;have r0:=blk_frozen a1.out 0;have r1:=blk_frozen a1.out 1;have c0:0≤(a0:Int):=zqo;have c2:a0<(l0_0.length:Int):=zqo;obtain⟨f3,h1,h2,f8,a7,b1,b0⟩:=at_L2 a6.out a0 c0 c2
                            cases f8
                            replace a7:=(HB.out.cell (World.block_lt_of_cell? w _ a7)).trans a7;have c4:=zqm b0;have g1:=zqm b1;clear b0 b1;replace c0:=eq_true c0;replace c2:=eq_true c2;have c1:0≤(a2:Int):=zqo;have c3:a2<((rd_L2 l0_0 a0).length:Int):=zqo;obtain⟨j1,f9,a8⟩:=Kd.at_int c4.out a2 c1 c3
                            cases f9
                            replace a8:=(HB.out.cell (World.block_lt_of_cell? w _ a8)).trans a8;replace c1:=eq_true c1;replace c3:=eq_true c3;have d4:0≤(a2:Int):=zqo;have e1:a2<(l0_1.length:Int):=zqo;obtain⟨g7,i1,b6⟩:=Kd.at_int b2.out a2 d4 e1
                            cases i1
                            replace b6:=(HB.out.cell (World.block_lt_of_cell? w _ b6)).trans b6;replace d4:=eq_true d4;replace e1:=eq_true e1;have d5:0≤((rd l0_1 a2):Int):=zqo;have e2:(rd l0_1 a2)<(l0_0.length:Int):=zqo;obtain⟨g8,m4,m6,i2,b7,c7,c5⟩:=at_L2 a6.out (rd l0_1 a2) d5 e2;obtain rfl:f3=g8:=(by injection i2);replace b7:=(HB.out.cell (World.block_lt_of_cell? w _ b7)).trans b7;have e8:=zqm c5;have l8:=zqm c7;clear c5 c7;replace d5:=eq_true d5;replace e2:=eq_true e2;have d6:0≤(a0:Int):=zqo;have e3:a0<(l0_1.length:Int):=zqo;obtain⟨g9,i3,b8⟩:=Kd.at_int b2.out a0 d6 e3;obtain rfl:g7=g9:=(by injection i3);replace b8:=(HB.out.cell (World.block_lt_of_cell? w _ b8)).trans b8;replace d6:=eq_true d6;replace e3:=eq_true e3;have d7:0≤((rd l0_1 a0):Int):=zqo;have e4:(rd l0_1 a0)<((rd_L2 l0_0 (rd l0_1 a2)).length:Int):=zqo;obtain⟨n0,i4,b9⟩:=Kd.at_int e8.out (rd l0_1 a0) d7 e4
                            cases i4
                            replace b9:=(HB.out.cell (World.block_lt_of_cell? w _ b9)).trans b9;replace d7:=eq_true d7;replace e4:=eq_true e4
                            go_wp2
                            repeat(go_quiet (fail);try go_wp2)
                            go_ret
                            exact⟨zq13,zq19⟩
                           ·rw [if_neg f7] at H;have n8:((rd (rd_L2 l0_0 (rd l0_1 a2)) (rd l0_1 a0))==0)=false:=beq_eq_false_iff_ne.mpr f7;have n9:((rd (rd_L2 l0_0 (rd l0_1 a2)) (rd l0_1 a0)) !=0)=true:=bne_iff_ne.mpr f7;have H':=zqm H;clear H;have p6:wr.cell? ⟨a3,0,none⟩=some (.slice A0_0 l0_0.length c0_0):=(blk_cell a1.out 0).trans rfl;have p7:wr.cell? ⟨a3,1,none⟩=some (.slice A0_1 l0_1.length c0_1):=(blk_cell a1.out 1).trans rfl;have r2:=blk_frozen a1.out 0;have r3:=blk_frozen a1.out 1;have c0:0≤(a0:Int):=zqo;have c2:a0<(l0_0.length:Int):=zqo;obtain⟨f3,h1,h2,f8,a7,b1,b0⟩:=at_L2 a6.out a0 c0 c2
                            cases f8
                            replace a7:=(HB.out.cell (World.block_lt_of_cell? w _ a7)).trans a7;have c4:=zqm b0;have g1:=zqm b1;clear b0 b1;replace c0:=eq_true c0;replace c2:=eq_true c2;have c1:0≤(a2:Int):=zqo;have c3:a2<((rd_L2 l0_0 a0).length:Int):=zqo;obtain⟨j1,f9,a8⟩:=Kd.at_int c4.out a2 c1 c3
                            cases f9
                            replace a8:=(HB.out.cell (World.block_lt_of_cell? w _ a8)).trans a8;replace c1:=eq_true c1;replace c3:=eq_true c3;have d4:0≤(a2:Int):=zqo;have e1:a2<(l0_1.length:Int):=zqo;obtain⟨g7,i1,b6⟩:=Kd.at_int b2.out a2 d4 e1
                            cases i1
                            replace b6:=(HB.out.cell (World.block_lt_of_cell? w _ b6)).trans b6;replace d4:=eq_true d4;replace e1:=eq_true e1;have d5:0≤((rd l0_1 a2):Int):=zqo;have e2:(rd l0_1 a2)<(l0_0.length:Int):=zqo;obtain⟨g8,m4,m6,i2,b7,c7,c5⟩:=at_L2 a6.out (rd l0_1 a2) d5 e2;obtain rfl:f3=g8:=(by injection i2);replace b7:=(HB.out.cell (World.block_lt_of_cell? w _ b7)).trans b7;have e8:=zqm c5;have l8:=zqm c7;clear c5 c7;replace d5:=eq_true d5;replace e2:=eq_true e2;have d6:0≤(a0:Int):=zqo;have e3:a0<(l0_1.length:Int):=zqo;obtain⟨g9,i3,b8⟩:=Kd.at_int b2.out a0 d6 e3;obtain rfl:g7=g9:=(by injection i3);replace b8:=(HB.out.cell (World.block_lt_of_cell? w _ b8)).trans b8;replace d6:=eq_true d6;replace e3:=eq_true e3;have d7:0≤((rd l0_1 a0):Int):=zqo;have e4:(rd l0_1 a0)<((rd_L2 l0_0 (rd l0_1 a2)).length:Int):=zqo;obtain⟨n0,i4,b9⟩:=Kd.at_int e8.out (rd l0_1 a0) d7 e4
                            cases i4
                            replace b9:=(HB.out.cell (World.block_lt_of_cell? w _ b9)).trans b9;replace d7:=eq_true d7;replace e4:=eq_true e4
                            go_wp2
                            repeat(go_quiet (fail);try go_wp2)
                            go_roundg k5
                            (case measure=> exact zq100);case rel=>exact⟨(wrap64 (a2+1)),zq6,H',⟨zq100⟩,⟨zqe a1.out⟩,⟨zq19⟩⟩
                          ·rw [if_neg l7] at H;exact absurd H (by simp)
                         ·rw [if_neg l6] at H;exact absurd H (by simp)
                        ·rw [if_neg l5] at H;exact absurd H (by simp)
                       ·rw [if_neg l4] at H;exact absurd H (by simp)
                      ·rw [if_neg l3] at H;exact absurd H (by simp)
                     ·rw [if_neg k9] at H;exact absurd H (by simp)
                    ·rw [if_neg f6] at H;have n6:((rd (rd_L2 l0_0 a0) a2)==1)=false:=beq_eq_false_iff_ne.mpr f6;have n7:((rd (rd_L2 l0_0 a0) a2) !=1)=true:=bne_iff_ne.mpr f6;have H':=zqm H;clear H;have p8:wr.cell? ⟨a3,0,none⟩=some (.slice A0_0 l0_0.length c0_0):=(blk_cell a1.out 0).trans rfl;have p9:wr.cell? ⟨a3,1,none⟩=some (.slice A0_1 l0_1.length c0_1):=(blk_cell a1.out 1).trans rfl;have r4:=blk_frozen a1.out 0;have r5:=blk_frozen a1.out 1;have c0:0≤(a0:Int):=zqo;have c2:a0<(l0_0.length:Int):=zqo;obtain⟨f3,h1,h2,f8,a7,b1,b0⟩:=at_L2 a6.out a0 c0 c2
                     cases f8
                     replace a7:=(HB.out.cell (World.block_lt_of_cell? w _ a7)).trans a7;have c4:=zqm b0;have g1:=zqm b1;clear b0 b1;replace c0:=eq_true c0;replace c2:=eq_true c2;have c1:0≤(a2:Int):=zqo;have c3:a2<((rd_L2 l0_0 a0).length:Int):=zqo;obtain⟨j1,f9,a8⟩:=Kd.at_int c4.out a2 c1 c3
                     cases f9
                     replace a8:=(HB.out.cell (World.block_lt_of_cell? w _ a8)).trans a8;replace c1:=eq_true c1;replace c3:=eq_true c3
                     go_wp2
                     repeat(go_quiet (fail);try go_wp2)
                     go_roundg k5
                     (case measure=> exact zq100);case rel=>exact⟨(wrap64 (a2+1)),zq6,H',⟨zq100⟩,⟨zqe a1.out⟩,⟨zq19⟩⟩
                   ·rw [if_neg k8] at H;exact absurd H (by simp)
                  ·rw [if_neg k7] at H;exact absurd H (by simp)
                 ·rw [if_neg k6] at H;exact absurd H (by simp)
                ·rw [if_neg k4] at H;exact absurd H (by simp)
               ·rw [if_neg g5] at H;have n5:decide (a2<(l0_0.length:Int))=false:=decide_eq_false g5;clear g5;have H':=zqm H;clear H
                go_wp2
                repeat(go_quiet (fail);try go_wp2)
                go_roundg k5
                (case measure=> exact zq100);case rel=>exact⟨(wrap64 (a0+1)),zq6,H',⟨zq100⟩,⟨zqe a1.out⟩,⟨zq19⟩⟩
         ·rw [if_neg g4] at H;have n2:decide (a0<(l0_0.length:Int))=false:=decide_eq_false g4;clear g4;obtain rfl:=Option.some.inj H
          go_wp2
          repeat(go_quiet (fail);try go_wp2)
          go_ret
          exact⟨zq13,zq19⟩
end
section
attribute [local go_sem] max2_int min2_int max_two min_two max_three min_three max_four min_four
def spec_l2Both.f (k : Nat) (l0_0 : List (List Int)) (l0_1 : List Int) (a1 : Int) (a2 : Int) : Option (Bool) := (spec_LogicOk.f k l0_0 l0_1).bind fun t619 => (if t619 = true then ((spec_l1In.f a1 0 (wrap64 ((l0_1.length : Int) - 1))).bind fun t620 => (if t620 = true then ((spec_l1In.f a2 0 (wrap64 ((l0_1.length : Int) - 1))).bind fun t621 => (some t621)) else (some false))) else (some false))
set_option maxHeartbeats 8000000 in
set_option maxRecDepth 100000 in
theorem spec_l2Both.calls (k : Nat) (A0_0 : Option Addr) (c0_0 : Nat) (l0_0 : List (List Int)) (A0_1 : Option Addr) (c0_1 : Nat) (l0_1 : List Int) (a1 : Int) (a2 : Int) (r : Bool) (w : World) (hr0_0 : Kd.C (Kd.slice 3 (Kd.int .i64)) w A0_0 l0_0.length l0_0) (hc0_0 : l0_0.length ≤ c0_0) (hr0_1 : Kd.C (Kd.int .i64) w A0_1 l0_1.length l0_1) (hc0_1 : l0_1.length ≤ c0_1) (h : spec_l2Both.f k l0_0 l0_1 a1 a2 = some r) :
  Calls Try.prog 106 #[.agg #[.slice A0_0 l0_0.length c0_0, .slice A0_1 l0_1.length c0_1], .int .i64 a1, .int .i64 a2] w fun e w' => e = .returned (.bool r) ∧ Below w.heap.size w w' := by
 have hu26:=Try.underlying26;have a8:=zqm hr0_0;have a6:=zqm hc0_0;clear hr0_0 hc0_0;have a9:=zqm hr0_1;have a7:=zqm hc0_1;clear hr0_1 hc0_1;have HB:=zqm (Below.refl w.heap.size w);have H:((spec_LogicOk.f k l0_0 l0_1).bind fun b0=>(if b0=true then((spec_l1In.f a1 0 (wrap64 ((l0_1.length:Int) - 1))).bind fun b1=>(if b1=true then((spec_l1In.f a2 0 (wrap64 ((l0_1.length:Int) - 1))).bind fun b2=>(some b2)) else(some false))) else(some false)))=some r:=h;clear h;replace H:=Option.bind_eq_some_iff.mp H;obtain⟨b0,b4,H⟩:=H;(try dsimp only at H);have A4:=zqm b4;clear b4
 by_cases c5:b0=true
 ·subst c5;rw [if_pos rfl] at H;replace H:=Option.bind_eq_some_iff.mp H;obtain⟨b1,b5,H⟩:=H;(try dsimp only at H);have A6:=zqm b5;clear b5
  by_cases c7:b1=true
  ·subst c7;rw [if_pos rfl] at H;replace H:=Option.bind_eq_some_iff.mp H;obtain⟨b2,b6,H⟩:=H;(try dsimp only at H);have A8:=zqm b6;clear b6;obtain rfl:=Option.some.inj H
   go_enter Try.func106,Try.ntmps106
   go_wp2_with (first|((with_reducible refine gate_dst (N:=3) rfl ?_);(try(refine gate_guard (by rfl) ?_;dsimp only));refine box_event ?hg (N:=3) ?hd (cs:= #[.slice A0_0 l0_0.length c0_0,.slice A0_1 l0_1.length c0_1]) (t:=26) ?hr ?_;(case hd=>rfl);(case hg=>rfl);(case hr=> exact zq9);intro a3 hg w9 hbox hb;have a5:=zqm (below_step zq2 hb);have a0:=zqm (hbox);have b3:=zqm ((by rw [hg];exact(below_size zq2):w.heap.size≤a3));have a4:=zqm ((by rw [hg];exact(below_size zq2):w.heap.size≤a3));clear HB;have HB:=a5;clear a5 hb hbox hg;have c1:w9.cell? ⟨a3,0,none⟩=some (.slice A0_0 l0_0.length c0_0):=(blk_cell a0.out 0).trans rfl;have c2:w9.cell? ⟨a3,1,none⟩=some (.slice A0_1 l0_1.length c0_1):=(blk_cell a0.out 1).trans rfl;have d3:=blk_frozen a0.out 0;have d4:=blk_frozen a0.out 1)|((with_reducible refine gate_callee (f:=17) rfl ?_);refine goesL_ (some 8) rfl rfl Try.func17 zqk rfl #[.agg #[.slice A0_0 l0_0.length c0_0,.slice A0_1 l0_1.length c0_1]] rfl zq5 ?_;(with_reducible refine(spec_LogicOk.calls k _ _ l0_0 _ _ l0_1 true _ ?side1 ?side2 ?side3 ?side4 A4.out).mono ?_);(case side1=> exact zq33);(case side2=>exact a6.out);(case side3=> exact zq81);(case side4=>exact a7.out);rintro e b7 ⟨rfl,hb⟩;refine⟨_,rfl,?_⟩;replace a0:=zqm (blk_below (g:=a3) (o:= .cells #[.slice A0_0 l0_0.length c0_0,.slice A0_1 l0_1.length c0_1] 26 (0,0)) (zqe a0.out) hb);replace HB:=zqm (below_step zq37 hb);clear hb;have c3:b7.cell? ⟨a3,0,none⟩=some (.slice A0_0 l0_0.length c0_0):=(blk_cell a0.out 0).trans rfl;have c4:b7.cell? ⟨a3,1,none⟩=some (.slice A0_1 l0_1.length c0_1):=(blk_cell a0.out 1).trans rfl;have d5:=blk_frozen a0.out 0;have d6:=blk_frozen a0.out 1)|(go_at_call 78;(with_reducible refine(spec_l1In.calls a1 0 (wrap64 ((l0_1.length:Int) - 1)) true _ A6.out).mono ?_);rintro e w' ⟨rfl,⟨nd,rfl⟩⟩)|(go_at_call 78;(with_reducible refine(spec_l1In.calls a2 0 (wrap64 ((l0_1.length:Int) - 1)) b2 _ A8.out).mono ?_);rintro e w' ⟨rfl,⟨nd,rfl⟩⟩))
   go_ret
   exact⟨zq13,zq37⟩
  ·replace c7:=Bool.eq_false_iff.mpr c7;subst c7;rw [if_neg (show¬(false=true) by decide)] at H;obtain rfl:=Option.some.inj H
   go_enter Try.func106,Try.ntmps106
   go_wp2_with (first|((with_reducible refine gate_dst (N:=3) rfl ?_);(try(refine gate_guard (by rfl) ?_;dsimp only));refine box_event ?hg (N:=3) ?hd (cs:= #[.slice A0_0 l0_0.length c0_0,.slice A0_1 l0_1.length c0_1]) (t:=26) ?hr ?_;(case hd=>rfl);(case hg=>rfl);(case hr=> exact zq9);intro a3 hg b8 hbox hb;have a5:=zqm (below_step zq2 hb);have a0:=zqm (hbox);have b3:=zqm ((by rw [hg];exact(below_size zq2):w.heap.size≤a3));have a4:=zqm ((by rw [hg];exact(below_size zq2):w.heap.size≤a3));clear HB;have HB:=a5;clear a5 hb hbox hg;have c6:b8.cell? ⟨a3,0,none⟩=some (.slice A0_0 l0_0.length c0_0):=(blk_cell a0.out 0).trans rfl;have c8:b8.cell? ⟨a3,1,none⟩=some (.slice A0_1 l0_1.length c0_1):=(blk_cell a0.out 1).trans rfl;have d7:=blk_frozen a0.out 0;have d8:=blk_frozen a0.out 1)|((with_reducible refine gate_callee (f:=17) rfl ?_);refine goesL_ (some 8) rfl rfl Try.func17 zqk rfl #[.agg #[.slice A0_0 l0_0.length c0_0,.slice A0_1 l0_1.length c0_1]] rfl zq5 ?_;(with_reducible refine(spec_LogicOk.calls k _ _ l0_0 _ _ l0_1 true _ ?side1 ?side2 ?side3 ?side4 A4.out).mono ?_);(case side1=> exact zq33);(case side2=>exact a6.out);(case side3=> exact zq81);(case side4=>exact a7.out);rintro e b9 ⟨rfl,hb⟩;refine⟨_,rfl,?_⟩;replace a0:=zqm (blk_below (g:=a3) (o:= .cells #[.slice A0_0 l0_0.length c0_0,.slice A0_1 l0_1.length c0_1] 26 (0,0)) (zqe a0.out) hb);replace HB:=zqm (below_step zq37 hb);clear hb;have c9:b9.cell? ⟨a3,0,none⟩=some (.slice A0_0 l0_0.length c0_0):=(blk_cell a0.out 0).trans rfl;have d0:b9.cell? ⟨a3,1,none⟩=some (.slice A0_1 l0_1.length c0_1):=(blk_cell a0.out 1).trans rfl;have d9:=blk_frozen a0.out 0;have e0:=blk_frozen a0.out 1)|(go_at_call 78;(with_reducible refine(spec_l1In.calls a1 0 (wrap64 ((l0_1.length:Int) - 1)) false _ A6.out).mono ?_);rintro e w' ⟨rfl,⟨nd,rfl⟩⟩))
   go_ret
   exact⟨zq13,zq37⟩
 ·replace c5:=Bool.eq_false_iff.mpr c5;subst c5;rw [if_neg (show¬(false=true) by decide)] at H;obtain rfl:=Option.some.inj H
  go_enter Try.func106,Try.ntmps106
  go_wp2_with (first|((with_reducible refine gate_dst (N:=3) rfl ?_);(try(refine gate_guard (by rfl) ?_;dsimp only));refine box_event ?hg (N:=3) ?hd (cs:= #[.slice A0_0 l0_0.length c0_0,.slice A0_1 l0_1.length c0_1]) (t:=26) ?hr ?_;(case hd=>rfl);(case hg=>rfl);(case hr=> exact zq9);intro a3 hg c0 hbox hb;have a5:=zqm (below_step zq2 hb);have a0:=zqm (hbox);have b3:=zqm ((by rw [hg];exact(below_size zq2):w.heap.size≤a3));have a4:=zqm ((by rw [hg];exact(below_size zq2):w.heap.size≤a3));clear HB;have HB:=a5;clear a5 hb hbox hg;have d1:c0.cell? ⟨a3,0,none⟩=some (.slice A0_0 l0_0.length c0_0):=(blk_cell a0.out 0).trans rfl;have d2:c0.cell? ⟨a3,1,none⟩=some (.slice A0_1 l0_1.length c0_1):=(blk_cell a0.out 1).trans rfl;have e1:=blk_frozen a0.out 0;have e2:=blk_frozen a0.out 1)|((with_reducible refine gate_callee (f:=17) rfl ?_);refine goesL_ (some 8) rfl rfl Try.func17 zqk rfl #[.agg #[.slice A0_0 l0_0.length c0_0,.slice A0_1 l0_1.length c0_1]] rfl zq5 ?_;(with_reducible refine(spec_LogicOk.calls k _ _ l0_0 _ _ l0_1 false _ ?side1 ?side2 ?side3 ?side4 A4.out).mono ?_);(case side1=> exact zq33);(case side2=>exact a6.out);(case side3=> exact zq81);(case side4=>exact a7.out);rintro e e3 ⟨rfl,hb⟩;refine⟨_,rfl,?_⟩;replace a0:=zqm (blk_below (g:=a3) (o:= .cells #[.slice A0_0 l0_0.length c0_0,.slice A0_1 l0_1.length c0_1] 26 (0,0)) (zqe a0.out) hb);replace HB:=zqm (below_step zq37 hb);clear hb))
  go_ret
  exact⟨zq13,zq37⟩
end
section
attribute [local go_sem] max2_int min2_int max_two min_two max_three min_three max_four min_four
def spec_NotOf.f (k : Nat) (l0_0 : List (List Int)) (l0_1 : List Int) (a1 : Int) : Option (Int) := (spec_l2Both.f k l0_0 l0_1 a1 a1).bind fun t623 => (if t623 = true then (if 0 ≤ a1 then (if a1 < (l0_1.length : Int) then (some (rd l0_1 a1)) else (none)) else (none)) else (some (-1)))
set_option maxHeartbeats 8000000 in
set_option maxRecDepth 100000 in
theorem spec_NotOf.calls (k : Nat) (A0_0 : Option Addr) (c0_0 : Nat) (l0_0 : List (List Int)) (A0_1 : Option Addr) (c0_1 : Nat) (l0_1 : List Int) (a1 : Int) (r : Int) (w : World) (hr0_0 : Kd.C (Kd.slice 3 (Kd.int .i64)) w A0_0 l0_0.length l0_0) (hc0_0 : l0_0.length ≤ c0_0) (hr0_1 : Kd.C (Kd.int .i64) w A0_1 l0_1.length l0_1) (hc0_1 : l0_1.length ≤ c0_1) (h : spec_NotOf.f k l0_0 l0_1 a1 = some r) :
  Calls Try.prog 89 #[.agg #[.slice A0_0 l0_0.length c0_0, .slice A0_1 l0_1.length c0_1], .int .i64 a1] w fun e w' => e = .returned (.int .i64 r) ∧ Below w.heap.size w w' := by
 have hu26:=Try.underlying26;have b2:=zqm hr0_0;have b0:=zqm hc0_0;clear hr0_0 hc0_0;have a5:=zqm hr0_1;have b1:=zqm hc0_1;clear hr0_1 hc0_1;have HB:=zqm (Below.refl w.heap.size w);have H:((spec_l2Both.f k l0_0 l0_1 a1 a1).bind fun a9=>(if a9=true then(if 0≤a1 then(if a1<(l0_1.length:Int) then(some (rd l0_1 a1)) else(none)) else(none)) else(some (-1))))=some r:=h;clear h;replace H:=Option.bind_eq_some_iff.mp H;obtain⟨a9,b4,H⟩:=H;(try dsimp only at H);have A3:=zqm b4;clear b4
 by_cases c4:a9=true
 ·subst c4;rw [if_pos rfl] at H
  by_cases c5:0≤a1
  ·rw [if_pos c5] at H;have d3:decide (0≤a1)=true:=decide_eq_true c5;clear c5
   by_cases c6:a1<(l0_1.length:Int)
   ·rw [if_pos c6] at H;have d4:decide (a1<(l0_1.length:Int))=true:=decide_eq_true c6;clear c6;obtain rfl:=Option.some.inj H
    go_enter Try.func89,Try.ntmps89
    go_wp2_with (first|((with_reducible refine gate_dst (N:=2) rfl ?_);refine box_event ?hg (N:=2) ?hd (cs:= #[.slice A0_0 l0_0.length c0_0,.slice A0_1 l0_1.length c0_1]) (t:=26) ?hr ?_;(case hd=>rfl);(case hg=>rfl);(case hr=> exact zq9);intro a2 hg w7 hbox hb;have a6:=zqm (below_step zq2 hb);have a0:=zqm (hbox);have b3:=zqm ((by rw [hg];exact(below_size zq2):w.heap.size≤a2));have a3:=zqm ((by rw [hg];exact(below_size zq2):w.heap.size≤a2));clear HB;have HB:=a6;clear a6 hb hbox hg;have c8:w7.cell? ⟨a2,0,none⟩=some (.slice A0_0 l0_0.length c0_0):=(blk_cell a0.out 0).trans rfl;have c9:w7.cell? ⟨a2,1,none⟩=some (.slice A0_1 l0_1.length c0_1):=(blk_cell a0.out 1).trans rfl;have d0:=blk_frozen a0.out 0;have d1:=blk_frozen a0.out 1)|((with_reducible refine gate_callee (f:=106) rfl ?_);refine goesL_ (some 8) rfl rfl Try.func106 zqk rfl #[.agg #[.slice A0_0 l0_0.length c0_0,.slice A0_1 l0_1.length c0_1],.int .i64 a1,.int .i64 a1] rfl zq5 ?_;(with_reducible refine(spec_l2Both.calls k _ _ l0_0 _ _ l0_1 a1 a1 true _ ?side1 ?side2 ?side3 ?side4 A3.out).mono ?_);(case side1=> exact zq122);(case side2=>exact b0.out);(case side3=> exact zq120);(case side4=>exact b1.out);rintro e w9 ⟨rfl,hb⟩;refine⟨_,rfl,?_⟩;replace a0:=zqm (blk_below (g:=a2) (o:= .cells #[.slice A0_0 l0_0.length c0_0,.slice A0_1 l0_1.length c0_1] 26 (0,0)) (zqe a0.out) hb);replace HB:=zqm (below_step zq28 hb);clear hb;have b7:w9.cell? ⟨a2,0,none⟩=some (.slice A0_0 l0_0.length c0_0):=(blk_cell a0.out 0).trans rfl;have b8:w9.cell? ⟨a2,1,none⟩=some (.slice A0_1 l0_1.length c0_1):=(blk_cell a0.out 1).trans rfl;have c1:=blk_frozen a0.out 0;have c2:=blk_frozen a0.out 1;have a7:0≤(a1:Int):=zqo;have a8:a1<(l0_1.length:Int):=zqo;obtain⟨d2,b6,a4⟩:=Kd.at_int a5.out a1 a7 a8;cases b6;replace a4:=(HB.out.cell (World.block_lt_of_cell? w _ a4)).trans a4;replace a7:=eq_true a7;replace a8:=eq_true a8))
    go_ret
    exact⟨zq13,zq28⟩
   ·rw [if_neg c6] at H;exact absurd H (by simp)
  ·rw [if_neg c5] at H;exact absurd H (by simp)
 ·replace c4:=Bool.eq_false_iff.mpr c4;subst c4;rw [if_neg (show¬(false=true) by decide)] at H;obtain rfl:=Option.some.inj H
  go_enter Try.func89,Try.ntmps89
  go_wp2_with (first|((with_reducible refine gate_dst (N:=2) rfl ?_);refine box_event ?hg (N:=2) ?hd (cs:= #[.slice A0_0 l0_0.length c0_0,.slice A0_1 l0_1.length c0_1]) (t:=26) ?hr ?_;(case hd=>rfl);(case hg=>rfl);(case hr=> exact zq9);intro a2 hg b5 hbox hb;have a6:=zqm (below_step zq2 hb);have a0:=zqm (hbox);have b3:=zqm ((by rw [hg];exact(below_size zq2):w.heap.size≤a2));have a3:=zqm ((by rw [hg];exact(below_size zq2):w.heap.size≤a2));clear HB;have HB:=a6;clear a6 hb hbox hg;have b9:b5.cell? ⟨a2,0,none⟩=some (.slice A0_0 l0_0.length c0_0):=(blk_cell a0.out 0).trans rfl;have c0:b5.cell? ⟨a2,1,none⟩=some (.slice A0_1 l0_1.length c0_1):=(blk_cell a0.out 1).trans rfl;have c3:=blk_frozen a0.out 0;have c7:=blk_frozen a0.out 1)|((with_reducible refine gate_callee (f:=106) rfl ?_);refine goesL_ (some 8) rfl rfl Try.func106 zqk rfl #[.agg #[.slice A0_0 l0_0.length c0_0,.slice A0_1 l0_1.length c0_1],.int .i64 a1,.int .i64 a1] rfl zq5 ?_;(with_reducible refine(spec_l2Both.calls k _ _ l0_0 _ _ l0_1 a1 a1 false _ ?side1 ?side2 ?side3 ?side4 A3.out).mono ?_);(case side1=> exact zq122);(case side2=>exact b0.out);(case side3=> exact zq120);(case side4=>exact b1.out);rintro e d5 ⟨rfl,hb⟩;refine⟨_,rfl,?_⟩;replace a0:=zqm (blk_below (g:=a2) (o:= .cells #[.slice A0_0 l0_0.length c0_0,.slice A0_1 l0_1.length c0_1] 26 (0,0)) (zqe a0.out) hb);replace HB:=zqm (below_step zq28 hb);clear hb))
  go_ret
  exact⟨zq13,zq28⟩
end
section
attribute [local go_sem] max2_int min2_int max_two min_two max_three min_three max_four min_four
def spec_NoOf.f (k : Nat) (l0_0 : List (List Int)) (l0_1 : List Int) : Option (Int) := (spec_LogicOk.f k l0_0 l0_1).bind fun t884 => (if t884 = true then ((spec_LeastOf.f k l0_0).bind fun bt885 => (some bt885.1)) else (some (-1)))
set_option maxHeartbeats 8000000 in
set_option maxRecDepth 100000 in
theorem spec_NoOf.calls (k : Nat) (A0_0 : Option Addr) (c0_0 : Nat) (l0_0 : List (List Int)) (A0_1 : Option Addr) (c0_1 : Nat) (l0_1 : List Int) (r : Int) (w : World) (hr0_0 : Kd.C (Kd.slice 3 (Kd.int .i64)) w A0_0 l0_0.length l0_0) (hc0_0 : l0_0.length ≤ c0_0) (hr0_1 : Kd.C (Kd.int .i64) w A0_1 l0_1.length l0_1) (hc0_1 : l0_1.length ≤ c0_1) (h : spec_NoOf.f k l0_0 l0_1 = some r) :
  Calls Try.prog 108 #[.agg #[.slice A0_0 l0_0.length c0_0, .slice A0_1 l0_1.length c0_1]] w fun e w' => e = .returned (.int .i64 r) ∧ Below w.heap.size w w' := by
 have hu26:=Try.underlying26;have a4:=zqm hr0_0;have a3:=zqm hc0_0;clear hr0_0 hc0_0;have a8:=zqm hr0_1;have a7:=zqm hc0_1;clear hr0_1 hc0_1;have HB:=zqm (Below.refl w.heap.size w);have H:((spec_LogicOk.f k l0_0 l0_1).bind fun a6=>(if a6=true then((spec_LeastOf.f k l0_0).bind fun b0=>(some b0.1)) else(some (-1))))=some r:=h;clear h;replace H:=Option.bind_eq_some_iff.mp H;obtain⟨a6,b1,H⟩:=H;(try dsimp only at H);have A2:=zqm b1;clear b1
 by_cases c3:a6=true
 ·subst c3;rw [if_pos rfl] at H;replace H:=Option.bind_eq_some_iff.mp H;obtain⟨⟨b3,b4⟩,b2,H⟩:=H;(try dsimp only at H);have A4:=zqm b2;clear b2;obtain rfl:=Option.some.inj H
  go_enter Try.func108,Try.ntmps108
  go_wp2_with (first|((with_reducible refine gate_dst (N:=1) rfl ?_);refine box_event ?hg (N:=1) ?hd (cs:= #[.slice A0_0 l0_0.length c0_0,.slice A0_1 l0_1.length c0_1]) (t:=26) ?hr ?_;(case hd=>rfl);(case hg=>rfl);(case hr=> exact zq9);intro a1 hg w5 hbox hb;have a5:=zqm (below_step zq2 hb);have a0:=zqm (hbox);have a9:=zqm ((by rw [hg];exact(below_size zq2):w.heap.size≤a1));have a2:=zqm ((by rw [hg];exact(below_size zq2):w.heap.size≤a1));clear HB;have HB:=a5;clear a5 hb hbox hg;have b9:w5.cell? ⟨a1,0,none⟩=some (.slice A0_0 l0_0.length c0_0):=(blk_cell a0.out 0).trans rfl;have c0:w5.cell? ⟨a1,1,none⟩=some (.slice A0_1 l0_1.length c0_1):=(blk_cell a0.out 1).trans rfl;have c4:=blk_frozen a0.out 0;have c5:=blk_frozen a0.out 1)|((with_reducible refine gate_callee (f:=17) rfl ?_);refine goesL_ (some 6) rfl rfl Try.func17 zqk rfl #[.agg #[.slice A0_0 l0_0.length c0_0,.slice A0_1 l0_1.length c0_1]] rfl zq5 ?_;(with_reducible refine(spec_LogicOk.calls k _ _ l0_0 _ _ l0_1 true _ ?side1 ?side2 ?side3 ?side4 A2.out).mono ?_);(case side1=> exact zq80);(case side2=>exact a3.out);(case side3=> exact zq33);(case side4=>exact a7.out);rintro e w7 ⟨rfl,hb⟩;refine⟨_,rfl,?_⟩;replace a0:=zqm (blk_below (g:=a1) (o:= .cells #[.slice A0_0 l0_0.length c0_0,.slice A0_1 l0_1.length c0_1] 26 (0,0)) (zqe a0.out) hb);replace HB:=zqm (below_step zq14 hb);clear hb;have c1:w7.cell? ⟨a1,0,none⟩=some (.slice A0_0 l0_0.length c0_0):=(blk_cell a0.out 0).trans rfl;have c2:w7.cell? ⟨a1,1,none⟩=some (.slice A0_1 l0_1.length c0_1):=(blk_cell a0.out 1).trans rfl;have c6:=blk_frozen a0.out 0;have c7:=blk_frozen a0.out 1)|((with_reducible refine gate_callee (f:=79) rfl ?_);refine goesL_ (some 11) rfl rfl Try.func79 zqk rfl #[.slice A0_0 l0_0.length c0_0] rfl zq5 ?_;(with_reducible refine(spec_LeastOf.calls k _ _ l0_0 b3 b4 _ ?side1 ?side2 A4.out).mono ?_);(case side1=> exact zq80);(case side2=>exact a3.out);rintro e w' ⟨rfl,⟨nd,rfl⟩⟩;refine⟨_,rfl,?_⟩))
  go_ret
  exact⟨zq13,zq14⟩
 ·replace c3:=Bool.eq_false_iff.mpr c3;subst c3;rw [if_neg (show¬(false=true) by decide)] at H;obtain rfl:=Option.some.inj H
  go_enter Try.func108,Try.ntmps108
  go_wp2_with (first|((with_reducible refine gate_dst (N:=1) rfl ?_);refine box_event ?hg (N:=1) ?hd (cs:= #[.slice A0_0 l0_0.length c0_0,.slice A0_1 l0_1.length c0_1]) (t:=26) ?hr ?_;(case hd=>rfl);(case hg=>rfl);(case hr=> exact zq9);intro a1 hg w9 hbox hb;have a5:=zqm (below_step zq2 hb);have a0:=zqm (hbox);have a9:=zqm ((by rw [hg];exact(below_size zq2):w.heap.size≤a1));have a2:=zqm ((by rw [hg];exact(below_size zq2):w.heap.size≤a1));clear HB;have HB:=a5;clear a5 hb hbox hg;have b5:w9.cell? ⟨a1,0,none⟩=some (.slice A0_0 l0_0.length c0_0):=(blk_cell a0.out 0).trans rfl;have b6:w9.cell? ⟨a1,1,none⟩=some (.slice A0_1 l0_1.length c0_1):=(blk_cell a0.out 1).trans rfl;have b7:=blk_frozen a0.out 0;have b8:=blk_frozen a0.out 1)|((with_reducible refine gate_callee (f:=17) rfl ?_);refine goesL_ (some 6) rfl rfl Try.func17 zqk rfl #[.agg #[.slice A0_0 l0_0.length c0_0,.slice A0_1 l0_1.length c0_1]] rfl zq5 ?_;(with_reducible refine(spec_LogicOk.calls k _ _ l0_0 _ _ l0_1 false _ ?side1 ?side2 ?side3 ?side4 A2.out).mono ?_);(case side1=> exact zq80);(case side2=>exact a3.out);(case side3=> exact zq33);(case side4=>exact a7.out);rintro e c8 ⟨rfl,hb⟩;refine⟨_,rfl,?_⟩;replace a0:=zqm (blk_below (g:=a1) (o:= .cells #[.slice A0_0 l0_0.length c0_0,.slice A0_1 l0_1.length c0_1] 26 (0,0)) (zqe a0.out) hb);replace HB:=zqm (below_step zq14 hb);clear hb))
  go_ret
  exact⟨zq13,zq14⟩
end
section
attribute [local go_sem] max2_int min2_int max_two min_two max_three min_three max_four min_four
def spec_YesOf.f (k : Nat) (l0_0 : List (List Int)) (l0_1 : List Int) : Option (Int) := (spec_NoOf.f k l0_0 l0_1).bind fun t930 => ((spec_NotOf.f k l0_0 l0_1 t930).bind fun t931 => (some t931))
set_option maxHeartbeats 8000000 in
set_option maxRecDepth 100000 in
theorem spec_YesOf.calls (k : Nat) (A0_0 : Option Addr) (c0_0 : Nat) (l0_0 : List (List Int)) (A0_1 : Option Addr) (c0_1 : Nat) (l0_1 : List Int) (r : Int) (w : World) (hr0_0 : Kd.C (Kd.slice 3 (Kd.int .i64)) w A0_0 l0_0.length l0_0) (hc0_0 : l0_0.length ≤ c0_0) (hr0_1 : Kd.C (Kd.int .i64) w A0_1 l0_1.length l0_1) (hc0_1 : l0_1.length ≤ c0_1) (h : spec_YesOf.f k l0_0 l0_1 = some r) :
  Calls Try.prog 117 #[.agg #[.slice A0_0 l0_0.length c0_0, .slice A0_1 l0_1.length c0_1]] w fun e w' => e = .returned (.int .i64 r) ∧ Below w.heap.size w w' := by
 have hu26:=Try.underlying26;have a7:=zqm hr0_0;have a5:=zqm hc0_0;clear hr0_0 hc0_0;have a8:=zqm hr0_1;have a6:=zqm hc0_1;clear hr0_1 hc0_1;have HB:=zqm (Below.refl w.heap.size w);have H:((spec_NoOf.f k l0_0 l0_1).bind fun a2=>((spec_NotOf.f k l0_0 l0_1 a2).bind fun a4=>(some a4)))=some r:=h;clear h;replace H:=Option.bind_eq_some_iff.mp H;obtain⟨a2,a9,H⟩:=H;(try dsimp only at H);have A2:=zqm a9;clear a9;replace H:=Option.bind_eq_some_iff.mp H;obtain⟨a4,b0,H⟩:=H;(try dsimp only at H);have A3:=zqm b0;clear b0;obtain rfl:=Option.some.inj H
 go_enter Try.func117,Try.ntmps117
 (try go_wp2_with (first|((with_reducible refine gate_dst (N:=1) rfl ?_);refine box_event ?hg (N:=1) ?hd (cs:= #[.slice A0_0 l0_0.length c0_0,.slice A0_1 l0_1.length c0_1]) (t:=26) ?hr ?_;(case hd=>rfl);(case hg=>rfl);(case hr=> exact zq9);intro a1 hg w4 hbox hb;have b1:=zqm (below_step zq2 hb);have a0:=zqm (hbox);have b2:=zqm ((by rw [hg];exact(below_size zq2):w.heap.size≤a1));have a3:=zqm ((by rw [hg];exact(below_size zq2):w.heap.size≤a1));clear HB;have HB:=b1;clear b1 hb hbox hg)));replace a0:=zqm (blk_drew a0.out);replace HB:=zqm (below_drew1 HB.out);refine start_ (n:=5) (S:=fun w'=>w'.cell? ⟨a1,0,none⟩=some (.slice A0_0 l0_0.length c0_0)∧w'.cell? ⟨a1,1,none⟩=some (.slice A0_1 l0_1.length c0_1)) (ds:= []) (zqb 5 0) zqk rfl rfl ⟨(blk_cell a0.out 0).trans rfl,(blk_cell a0.out 1).trans rfl⟩ (fun hHeld=>?_);generalize w4.drew=w5 at a0 HB hHeld ⊢;refine take_ (i:=0) (N:=some 3) (v:=?_) (a':=?_) (zqb 5 1) rfl rfl zqk (fun _ _ _ h=>h) (Or.inl ⟨by rfl,?_⟩) hHeld ?_ ?_;rotate_left
 ·rintro w' ⟨s0,s1⟩;go_simp;with_reducible rfl
 rotate_left
 ·exact zqs
 refine take_ (i:=1) (N:=some 4) (v:=?_) (a':=?_) (zqb 5 3) rfl rfl zqk (fun _ _ _ h=>h) (Or.inl ⟨by rfl,?_⟩) hHeld ?_ ?_;rotate_left
 ·rintro w' ⟨s0,s1⟩;go_simp;with_reducible rfl
 rotate_left
 ·exact zqs
 refine one_ (i:=2) (N:=some 5) (zqb 5 7) rfl rfl zqk (by decide) (fun K hK=>?_);refine goes_ Try.func108 zqk rfl #[.agg #[.slice A0_0 l0_0.length c0_0,.slice A0_1 l0_1.length c0_1]] (by rfl) rfl rfl zq5 ?_;(with_reducible refine(spec_NoOf.calls k _ _ l0_0 _ _ l0_1 a2 _ ?side1 ?side2 ?side3 ?side4 A2.out).mono ?_);(case side1=> exact zq121);(case side2=>exact a5.out);(case side3=> exact zq33);(case side4=>exact a6.out);rintro e w6 ⟨rfl,hb⟩;refine⟨_,rfl,?_⟩;replace a0:=zqm (blk_below (g:=a1) (o:= .cells #[.slice A0_0 l0_0.length c0_0,.slice A0_1 l0_1.length c0_1] 26 (0,0)) (zqe a0.out) hb);replace HB:=zqm (below_step zq28 hb);clear hb;refine hK.out _ _ ⟨(blk_cell a0.out 0).trans rfl,(blk_cell a0.out 1).trans rfl⟩ (fun hHeld=>?_);clear hK K;refine norm_ (a':=?_) ?_ ?_;rotate_left
 ·show Act.put _ (some 5) _=_;exact zqs
 refine one_ (i:=3) (N:=some 6) (zqb 5 15) rfl rfl zqk (by decide) (fun K hK=>?_);refine goes_ Try.func89 zqk rfl #[.agg #[.slice A0_0 l0_0.length c0_0,.slice A0_1 l0_1.length c0_1],.int .i64 a2] (by rfl) rfl rfl zq5 ?_;(with_reducible refine(spec_NotOf.calls k _ _ l0_0 _ _ l0_1 a2 a4 _ ?side1 ?side2 ?side3 ?side4 A3.out).mono ?_);(case side1=> exact zq121);(case side2=>exact a5.out);(case side3=> exact zq33);(case side4=>exact a6.out);rintro e w7 ⟨rfl,hb⟩;refine⟨_,rfl,?_⟩;replace a0:=zqm (blk_below (g:=a1) (o:= .cells #[.slice A0_0 l0_0.length c0_0,.slice A0_1 l0_1.length c0_1] 26 (0,0)) (zqe a0.out) hb);replace HB:=zqm (below_step zq28 hb);clear hb;refine hK.out _ _ ⟨(blk_cell a0.out 0).trans rfl,(blk_cell a0.out 1).trans rfl⟩ (fun hHeld=>?_);clear hK K;refine norm_ (a':=?_) ?_ ?_;rotate_left
 ·show Act.put _ (some 6) _=_;exact zqs
 refine pure_ (i:=4) (N:=some 2) (v:=?_) (a':=?_) (zqb 5 31) rfl rfl zqk (fun _ _ _ h=>h) (Or.inl ⟨by rfl,?_⟩) ?_ ?_;rotate_left
 ·exact zqt
 rotate_left
 ·exact zqs
 refine done_ zqk ?_;try go_wp2
 go_ret
 exact⟨zq13,zq28⟩
end
section
attribute [local go_sem] max2_int min2_int max_two min_two max_three min_three max_four min_four
mutual
def spec_l9State.l0 : Nat → Int → Int → List (List Int) → List Int → Option (Bool)
 | 0, _, _, _, _ => none
 | k + 1, x1, x7, x933000, x933001 => if x7 < (x933001.length : Int) then (if 0 ≤ x7 then (if 0 ≤ (rd x933001 x7) then (if (wrap64 ((Int.tmod (shr .i64 x1 x7) 2) + (Int.tmod (shr .i64 x1 (rd x933001 x7)) 2))) = 1 then (spec_l9State.l1 k x1 x7 0 x933000 x933001) else (some false)) else (none)) else (none)) else (some true)
def spec_l9State.l1 : Nat → Int → Int → Int → List (List Int) → List Int → Option (Bool)
 | 0, _, _, _, _, _ => none
 | k + 1, x1, x7, x8, x933000, x933001 => if x8 < x7 then (if 0 ≤ x7 then (if x7 < (x933000.length : Int) then (if 0 ≤ x8 then (if x8 < (x933001.length : Int) then (if 0 ≤ (rd x933001 x8) then (if (rd x933001 x8) < ((rd_L2 x933000 x7).length : Int) then (if (rd (rd_L2 x933000 x7) (rd x933001 x8)) = 1 then ((spec_l1Join.f k x933000 x7 x8).bind fun t937 => (if 0 ≤ t937 then (if (wrap64 ((Int.tmod (shr .i64 x1 x7) 2) + (Int.tmod (shr .i64 x1 x8) 2))) = (Int.tmod (shr .i64 x1 t937) 2) then (spec_l9State.l1 k x1 x7 (wrap64 (x8 + 1)) x933000 x933001) else (some false)) else (none))) else (spec_l9State.l1 k x1 x7 (wrap64 (x8 + 1)) x933000 x933001)) else (none)) else (none)) else (none)) else (none)) else (none)) else (none)) else (spec_l9State.l0 k x1 (wrap64 (x7 + 1)) x933000 x933001)
end
def spec_l9State.f (k : Nat) (l0_0 : List (List Int)) (l0_1 : List Int) (a1 : Int) (a2 : Int) : Option (Bool) := if 0 ≤ a2 then (if (Int.tmod (shr .i64 a1 a2) 2) = 0 then (some false) else (spec_l9State.l0 k a1 0 l0_0 l0_1)) else (none)
def spec_l9State.T6 : Bool × List (List Nat × List Nat) := (true, [([], []), ([], []), ([0, 1], [0, 1]), ([2], [2]), ([], []), ([], []), ([5], [5]), ([], []), ([6, 7], [6, 7]), ([8], [8]), ([4, 9], [4, 9]), ([10], [10]), ([3, 11], [3, 11]), ([12], [12])])
def spec_l9State.B6 : List Nat := [0, 0, 3, 7, 0, 0, 32, 0, 224, 480, 1008, 2032, 4095, 8191]
theorem spec_l9State.tab6 : rtab .any (opsOf Try.f118 6) = spec_l9State.T6 := by kernel_rfl
theorem spec_l9State.bits6 : waitsOk spec_l9State.T6.2 spec_l9State.B6 = true := by kernel_rfl
def spec_l9State.T11 : Bool × List (List Nat × List Nat) := (true, [([], []), ([0], [0]), ([], []), ([1, 2], [1, 2]), ([3], [3]), ([], []), ([5], [5]), ([], []), ([6, 7], [6, 7]), ([8], [8]), ([4, 9], [4, 9]), ([10], [10]), ([11], [11]), ([12], [12]), ([13], [13]), ([13], [13]), ([14, 15, 13], [13, 14, 15]), ([16, 13], [13, 16]), ([13], [13]), ([13], [13]), ([18, 19, 13], [13, 18, 19]), ([20, 13], [13, 20]), ([17, 21, 13], [13, 17, 21]), ([13], [13]), ([13], [13]), ([24, 13], [13, 24]), ([13], [13]), ([13], [13]), ([25, 26, 27, 13, 13], [13, 25, 26, 27]), ([23, 28, 13], [13, 23, 28]), ([29, 13], [13, 29]), ([22, 30, 13], [13, 22, 30]), ([13, 31], [13, 31])])
def spec_l9State.B11 : List Nat := [0, 1, 0, 7, 15, 0, 32, 0, 224, 480, 1023, 2047, 4095, 8191, 16383, 16383, 65535, 131071, 16383, 16383, 802815, 1851391, 4194303, 16383, 16383, 16793599, 16383, 16383, 251674623, 528498687, 1065369599, 2147483647, 4294967295]
theorem spec_l9State.tab11 : rtab .any (opsOf Try.f118 11) = spec_l9State.T11 := by kernel_rfl
theorem spec_l9State.bits11 : waitsOk spec_l9State.T11.2 spec_l9State.B11 = true := by kernel_rfl
set_option maxHeartbeats 8000000 in
set_option maxRecDepth 100000 in
theorem spec_l9State.calls (k : Nat) (A0_0 : Option Addr) (c0_0 : Nat) (l0_0 : List (List Int)) (A0_1 : Option Addr) (c0_1 : Nat) (l0_1 : List Int) (a1 : Int) (a2 : Int) (r : Bool) (w : World) (hr0_0 : Kd.C (Kd.slice 3 (Kd.int .i64)) w A0_0 l0_0.length l0_0) (hc0_0 : l0_0.length ≤ c0_0) (hr0_1 : Kd.C (Kd.int .i64) w A0_1 l0_1.length l0_1) (hc0_1 : l0_1.length ≤ c0_1) (h : spec_l9State.f k l0_0 l0_1 a1 a2 = some r) :
  Calls Try.prog 118 #[.agg #[.slice A0_0 l0_0.length c0_0, .slice A0_1 l0_1.length c0_1], .int .i64 a1, .int .i64 a2] w fun e w' => e = .returned (.bool r) ∧ Below w.heap.size w w' := by
 have hu26:=Try.underlying26;have e1:=zqm hr0_0;have g8:=zqm hc0_0;clear hr0_0 hc0_0;have e2:=zqm hr0_1;have k7:=zqm hc0_1;clear hr0_1 hc0_1;have HB:=zqm (Below.refl w.heap.size w);have H:(if 0≤a2 then(if(Int.tmod (shr .i64 a1 a2) 2)=0 then(some false) else(spec_l9State.l0 k a1 0 l0_0 l0_1)) else(none))=some r:=h;clear h
 by_cases c4:0≤a2
 ·rw [if_pos c4] at H;have i1:=eq_true c4;have i2:decide (0≤a2)=true:=decide_eq_true c4;clear c4;obtain⟨e6,d5⟩: ∃j_:Int,(shr .i64 a1 a2)=j_:=⟨_,rfl⟩;(replace H:(if(Int.tmod (e6) 2)=0 then(some false) else(spec_l9State.l0 k a1 0 l0_0 l0_1))=some r:=by first|(rw [d5] at H;exact H)|(simp only [d5] at H ⊢;exact H));have m0:(a1 / 2 ^ min a2.toNat 64)=e6:=d5;have hji5z:a2≤64→(a1 / 2 ^ a2.toNat)=e6:=shr_small d5
  by_cases c6:(Int.tmod (e6) 2)=0
  ·rw [if_pos c6] at H;have g5:((Int.tmod (e6) 2)==0)=true:=beq_iff_eq.mpr c6;have g6:((Int.tmod (e6) 2) !=0)=false:=bne_eq_false_iff_eq.mpr c6;clear c6;obtain rfl:=Option.some.inj H
   go_enter Try.func118,Try.ntmps118
   go_wp2_with (first|((with_reducible refine gate_dst (N:=3) rfl ?_);refine box_event ?hg (N:=3) ?hd (cs:= #[.slice A0_0 l0_0.length c0_0,.slice A0_1 l0_1.length c0_1]) (t:=26) ?hr ?_;(case hd=>rfl);(case hg=>rfl);(case hr=> exact zq9);intro a8 hg w7 hbox hb;have g4:=zqm (below_step zq2 hb);have a4:=zqm (hbox);have i4:=zqm ((by rw [hg];exact(below_size zq2):w.heap.size≤a8));have b8:=zqm ((by rw [hg];exact(below_size zq2):w.heap.size≤a8));clear HB;have HB:=g4;clear g4 hb hbox hg))
   go_ret
   exact⟨zq130,zq29⟩
  ·rw [if_neg c6] at H;have g5:((Int.tmod (e6) 2)==0)=false:=beq_eq_false_iff_ne.mpr c6;have g6:((Int.tmod (e6) 2) !=0)=true:=bne_iff_ne.mpr c6;have H':=zqm H;clear H
   go_enter Try.func118,Try.ntmps118
   go_wp2_with (first|((with_reducible refine gate_dst (N:=3) rfl ?_);refine box_event ?hg (N:=3) ?hd (cs:= #[.slice A0_0 l0_0.length c0_0,.slice A0_1 l0_1.length c0_1]) (t:=26) ?hr ?_;(case hd=>rfl);(case hg=>rfl);(case hr=> exact zq9);intro a8 hg w8 hbox hb;have g4:=zqm (below_step zq2 hb);have a4:=zqm (hbox);have i4:=zqm ((by rw [hg];exact(below_size zq2):w.heap.size≤a8));have b8:=zqm ((by rw [hg];exact(below_size zq2):w.heap.size≤a8));clear HB;have HB:=g4;clear g4 hb hbox hg))
   go_loopg [7] k (fun kq v7 w'=> ∃(a0:Int),v7= .int .i64 a0∧Aside0 (spec_l9State.l0 kq a1 a0 l0_0 l0_1=some r)∧Aside0 (kq≤k)∧Aside0 (w'.heap[a8]? =some (.cells #[(.slice A0_0 l0_0.length c0_0),(.slice A0_1 l0_1.length c0_1)] 26 (0,0)))∧Aside0 (Below w.heap.size w w'))
   case atStart=>exact⟨(0),zq6,H',⟨Nat.le_refl _⟩,⟨zqe a4.out⟩,⟨zq29⟩⟩
   case round=>
    clear H';(try clear c1);(try clear p2);(try clear c4);(try clear i1);(try clear i2);(try clear c6);(try clear g5);(try clear g6);obtain⟨a0,rfl,HA,f5,a4,HB⟩:=hrel
    cases gk with
    |zero=>exact absurd HA.out (by simp [spec_l9State.l0])
    |succ k1=>
     have H:=HA.out;clear HA;simp only [spec_l9State.l0] at H
     by_cases c9:a0<(l0_1.length:Int)
     ·rw [if_pos c9] at H;have i3:decide (a0<(l0_1.length:Int))=true:=decide_eq_true c9;clear c9
      by_cases f7:0≤a0
      ·rw [if_pos f7] at H;have i5:=eq_true f7;have i6:decide (0≤a0)=true:=decide_eq_true f7;clear f7;obtain⟨b5,d3⟩: ∃j_:Int,(shr .i64 a1 a0)=j_:=⟨_,rfl⟩;(replace H:(if 0≤(rd l0_1 a0) then(if(wrap64 ((Int.tmod (b5) 2)+(Int.tmod (shr .i64 a1 (rd l0_1 a0)) 2)))=1 then(spec_l9State.l1 k1 a1 a0 0 l0_0 l0_1) else(some false)) else(none))=some r:=by first|(rw [d3] at H;exact H)|(simp only [d3] at H ⊢;exact H));have k0:(a1 / 2 ^ min a0.toNat 64)=b5:=d3;have hji11z:a0≤64→(a1 / 2 ^ a0.toNat)=b5:=shr_small d3
       by_cases f8:0≤(rd l0_1 a0)
       ·rw [if_pos f8] at H;have i7:=eq_true f8;have i8:decide (0≤(rd l0_1 a0))=true:=decide_eq_true f8;clear f8;obtain⟨c0,d8⟩: ∃j_:Int,(shr .i64 a1 (rd l0_1 a0))=j_:=⟨_,rfl⟩;(replace H:(if(wrap64 ((Int.tmod (b5) 2)+(Int.tmod (c0) 2)))=1 then(spec_l9State.l1 k1 a1 a0 0 l0_0 l0_1) else(some false))=some r:=by first|(rw [d8] at H;exact H)|(simp only [d8] at H ⊢;exact H));have k3:(a1 / 2 ^ min (rd l0_1 a0).toNat 64)=c0:=d8;have hji13z:(rd l0_1 a0)≤64→(a1 / 2 ^ (rd l0_1 a0).toNat)=c0:=shr_small d8
        by_cases e5:(wrap64 ((Int.tmod (b5) 2)+(Int.tmod (c0) 2)))=1
        ·rw [if_pos e5] at H;have e7:((wrap64 ((Int.tmod (b5) 2)+(Int.tmod (c0) 2)))==1)=true:=beq_iff_eq.mpr e5;(have c14w0:((IntKind.i64.wrap ((Int.tmod (b5) 2)+(Int.tmod (c0) 2)))==1)=true:=by simp only [i64_w];exact e7);have e8:((wrap64 ((Int.tmod (b5) 2)+(Int.tmod (c0) 2))) !=1)=false:=bne_eq_false_iff_eq.mpr e5;(have c14w1:((IntKind.i64.wrap ((Int.tmod (b5) 2)+(Int.tmod (c0) 2))) !=1)=false:=by simp only [i64_w];exact e8);clear e5;have H':=zqm H;clear H;have h5:wr.cell? ⟨a8,0,none⟩=some (.slice A0_0 l0_0.length c0_0):=(blk_cell a4.out 0).trans rfl;have h6:wr.cell? ⟨a8,1,none⟩=some (.slice A0_1 l0_1.length c0_1):=(blk_cell a4.out 1).trans rfl;have h7:=blk_frozen a4.out 0;have h8:=blk_frozen a4.out 1;(try go_wp2);replace a4:=zqm (blk_drew a4.out);replace HB:=zqm (below_drew1 HB.out);have d6:0≤(a0:Int):=zqo;have d7:a0<(l0_1.length:Int):=zqo;obtain⟨b0,g7,a9⟩:=Kd.at_int e2.out a0 d6 d7;have hw933_0:=a9
         cases g7
         replace a9:=(HB.out.cell (World.block_lt_of_cell? w _ a9)).trans a9;replace d6:=eq_true d6;replace d7:=eq_true d7;refine start_ (n:=14) (S:=fun w'=>w'.cell? ⟨a8,0,none⟩=some (.slice A0_0 l0_0.length c0_0)∧w'.cell? ⟨a8,1,none⟩=some (.slice (some b0) l0_1.length c0_1)∧w'.cell? (b0.add (a0).toNat)=some (.int .i64 (rd l0_1 a0))) (ds:= []) (zqb 14 0) zqk rfl rfl ⟨(blk_cell a4.out 0).trans rfl,(blk_cell a4.out 1).trans rfl,((HB.out.cell (World.block_lt_of_cell? w _ hw933_0)).trans hw933_0)⟩ (fun hHeld=>?_);refine with_tabW spec_l9State.tab6 spec_l9State.bits6 (fun HT_ HW_=>?_);generalize wr.drew=m3 at a4 HB a9 hHeld ⊢;refine zqp 0 21 (zqb 14 1) HT_ ?_;refine zqp 1 22 (zqb 14 3) HT_ ?_;refine zqp 2 23 (zqb 14 7) HT_ ?_;refine zqp 3 24 (zqb 14 15) HT_ ?_;refine zqp 4 25 (zqb 14 31) HT_ ?_;refine zqp 5 26 (zqb 14 63) HT_ ?_;refine zqp 7 28 (zqb 14 191) HT_ ?_;refine zqw 6 27 (zqb 14 255) HT_ HW_ hHeld ?_;refine zqp 8 29 (zqb 14 511) HT_ ?_;refine zqw 9 30 (zqb 14 1023) HT_ HW_ hHeld ?_;refine zqp 10 31 (zqb 14 2047) HT_ ?_;refine zqp 11 32 (zqb 14 4095) HT_ ?_;refine zqp 12 33 (zqb 14 8191) HT_ ?_;refine zqp 13 34 (zqb 14 16383) HT_ ?_;refine done_ (done_of HT_.out zqk) ?_;try go_wp2
         go_loopg [8] k1 (fun kq v8 w'=> ∃(a3:Int),v8= .int .i64 a3∧Aside0 (spec_l9State.l1 kq a1 a0 a3 l0_0 l0_1=some r)∧Aside0 (kq≤k1)∧Aside0 (w'.heap[a8]? =some (.cells #[(.slice A0_0 l0_0.length c0_0),(.slice (some b0) l0_1.length c0_1)] 26 (0,0)))∧Aside0 (Below w.heap.size w w'))
         case atStart=>exact⟨(0),zq6,H',⟨Nat.le_refl _⟩,⟨zqe a4.out⟩,⟨zq29⟩⟩
         case round=>
          clear H';(try clear c1);(try clear p2);(try clear c4);(try clear i1);(try clear i2);(try clear c6);(try clear g5);(try clear g6);(try clear p6);(try clear c9);(try clear i3);(try clear p9);(try clear q9);(try clear m2);(try clear f7);(try clear i5);(try clear i6);(try clear m1);(try clear f8);(try clear i7);(try clear i8);(try clear e5);(try clear e7);(try clear e8);(try clear h5);(try clear h6);(try clear h7);(try clear h8);(try clear a9);(try clear p2);(try clear d6);(try clear d7);obtain⟨a3,rfl,HA,f6,a4,HB⟩:=hrel
          cases gk with
          |zero=>exact absurd HA.out (by simp [spec_l9State.l1])
          |succ k2=>
           have H:=HA.out;clear HA;simp only [spec_l9State.l1] at H
           by_cases f9:a3<a0
           ·rw [if_pos f9] at H;have i9:decide (a3<a0)=true:=decide_eq_true f9;clear f9
            by_cases g9:0≤a0
            ·rw [if_pos g9] at H;have k8:decide (0≤a0)=true:=decide_eq_true g9;clear g9
             by_cases h0:a0<(l0_0.length:Int)
             ·rw [if_pos h0] at H;have k9:decide (a0<(l0_0.length:Int))=true:=decide_eq_true h0;clear h0
              by_cases h1:0≤a3
              ·rw [if_pos h1] at H;have l2:decide (0≤a3)=true:=decide_eq_true h1;clear h1
               by_cases h2:a3<(l0_1.length:Int)
               ·rw [if_pos h2] at H;have l3:decide (a3<(l0_1.length:Int))=true:=decide_eq_true h2;clear h2
                by_cases h3:0≤(rd l0_1 a3)
                ·rw [if_pos h3] at H;have l4:decide (0≤(rd l0_1 a3))=true:=decide_eq_true h3;clear h3
                 by_cases h4:(rd l0_1 a3)<((rd_L2 l0_0 a0).length:Int)
                 ·rw [if_pos h4] at H;have l5:decide ((rd l0_1 a3)<((rd_L2 l0_0 a0).length:Int))=true:=decide_eq_true h4;clear h4
                  by_cases e9:(rd (rd_L2 l0_0 a0) (rd l0_1 a3))=1
                  ·rw [if_pos e9] at H;have j0:((rd (rd_L2 l0_0 a0) (rd l0_1 a3))==1)=true:=beq_iff_eq.mpr e9;have j1:((rd (rd_L2 l0_0 a0) (rd l0_1 a3)) !=1)=false:=bne_eq_false_iff_eq.mpr e9;clear e9;have l6:=eq_true (zqo:0≤a0);obtain⟨b1,d9⟩: ∃j_:Int,(shr .i64 a1 a0)=j_:=⟨_,rfl⟩;(first|(obtain rfl:b1=b5:=d9.symm.trans d3)|skip);(replace H:((spec_l1Join.f k2 l0_0 a0 a3).bind fun b6=>(if 0≤b6 then(if(wrap64 ((Int.tmod (b1) 2)+(Int.tmod (shr .i64 a1 a3) 2)))=(Int.tmod (shr .i64 a1 b6) 2) then(spec_l9State.l1 k2 a1 a0 (wrap64 (a3+1)) l0_0 l0_1) else(some false)) else(none)))=some r:=by first|(rw [d9] at H;exact H)|(simp only [d9] at H ⊢;exact H));have k4:(a1 / 2 ^ min a0.toNat 64)=b1:=d9;have hji26z:a0≤64→(a1 / 2 ^ a0.toNat)=b1:=shr_small d9;have l7:=eq_true (zqo:0≤a3);obtain⟨b7,e4⟩: ∃j_:Int,(shr .i64 a1 a3)=j_:=⟨_,rfl⟩;(replace H:((spec_l1Join.f k2 l0_0 a0 a3).bind fun b6=>(if 0≤b6 then(if(wrap64 ((Int.tmod (b1) 2)+(Int.tmod (b7) 2)))=(Int.tmod (shr .i64 a1 b6) 2) then(spec_l9State.l1 k2 a1 a0 (wrap64 (a3+1)) l0_0 l0_1) else(some false)) else(none)))=some r:=by first|(rw [e4] at H;exact H)|(simp only [e4] at H ⊢;exact H));have k5:(a1 / 2 ^ min a3.toNat 64)=b7:=e4;have hji28z:a3≤64→(a1 / 2 ^ a3.toNat)=b7:=shr_small e4;replace H:=Option.bind_eq_some_iff.mp H;obtain⟨b6,i0,H⟩:=H;(try dsimp only at H);have h9:=zqm i0;clear i0
                   by_cases g3:0≤b6
                   ·rw [if_pos g3] at H;have l8:=eq_true g3;have l9:decide (0≤b6)=true:=decide_eq_true g3;clear g3;obtain⟨c2,e0⟩: ∃j_:Int,(shr .i64 a1 b6)=j_:=⟨_,rfl⟩;(replace H:(if(wrap64 ((Int.tmod (b1) 2)+(Int.tmod (b7) 2)))=(Int.tmod (c2) 2) then(spec_l9State.l1 k2 a1 a0 (wrap64 (a3+1)) l0_0 l0_1) else(some false))=some r:=by first|(rw [e0] at H;exact H)|(simp only [e0] at H ⊢;exact H));(try rw [e0] at h9);have k6:(a1 / 2 ^ min b6.toNat 64)=c2:=e0;have hji31z:b6≤64→(a1 / 2 ^ b6.toNat)=c2:=shr_small e0
                    by_cases f0:(wrap64 ((Int.tmod (b1) 2)+(Int.tmod (b7) 2)))=(Int.tmod (c2) 2)
                    ·rw [if_pos f0] at H;have g0:((wrap64 ((Int.tmod (b1) 2)+(Int.tmod (b7) 2)))==(Int.tmod (c2) 2))=true:=beq_iff_eq.mpr f0;(have c32w0:((IntKind.i64.wrap ((Int.tmod (b1) 2)+(Int.tmod (b7) 2)))==(Int.tmod (c2) 2))=true:=by simp only [i64_w];exact g0);have g1:((wrap64 ((Int.tmod (b1) 2)+(Int.tmod (b7) 2))) !=(Int.tmod (c2) 2))=false:=bne_eq_false_iff_eq.mpr f0;(have c32w1:((IntKind.i64.wrap ((Int.tmod (b1) 2)+(Int.tmod (b7) 2))) !=(Int.tmod (c2) 2))=false:=by simp only [i64_w];exact g1);clear f0;have H':=zqm H;clear H;(try go_wp2);replace a4:=zqm (blk_drew a4.out);replace HB:=zqm (below_drew1 HB.out);have c3:0≤(a0:Int):=zqo;have c8:a0<(l0_0.length:Int):=zqo;obtain⟨b9,g2,d4,f1,a5,b4,b3⟩:=at_L2 e1.out a0 c3 c8;have hw934_0:=a5
                     cases f1
                     replace a5:=(HB.out.cell (World.block_lt_of_cell? w _ a5)).trans a5;have b2:=zqm b3;have f4:=zqm b4;clear b3 b4;replace c3:=eq_true c3;replace c8:=eq_true c8;have c5:0≤(a3:Int):=zqo;have d0:a3<(l0_1.length:Int):=zqo;obtain⟨e3,f2,a6⟩:=Kd.at_int e2.out a3 c5 d0;have hw935_0:=a6;obtain rfl:b0=e3:=(by injection f2);replace a6:=(HB.out.cell (World.block_lt_of_cell? w _ a6)).trans a6;replace c5:=eq_true c5;replace d0:=eq_true d0;have c7:0≤((rd l0_1 a3):Int):=zqo;have d1:(rd l0_1 a3)<((rd_L2 l0_0 a0).length:Int):=zqo;obtain⟨d2,f3,a7⟩:=Kd.at_int b2.out (rd l0_1 a3) c7 d1;have hw936_0:=a7
                     cases f3
                     replace a7:=(HB.out.cell (World.block_lt_of_cell? w _ a7)).trans a7;replace c7:=eq_true c7;replace d1:=eq_true d1;refine start_ (n:=33) (S:=fun w'=>w'.cell? ⟨a8,0,none⟩=some (.slice (some b9) l0_0.length c0_0)∧w'.cell? ⟨a8,1,none⟩=some (.slice (some b0) l0_1.length c0_1)∧w'.cell? (b9.add (a0).toNat)=some (.slice (some d2) (rd_L2 l0_0 a0).length d4)∧w'.cell? (b0.add (a3).toNat)=some (.int .i64 (rd l0_1 a3))∧w'.cell? (d2.add ((rd l0_1 a3)).toNat)=some (.int .i64 (rd (rd_L2 l0_0 a0) (rd l0_1 a3)))) (ds:= []) (zqb 33 0) zqk rfl rfl ⟨(blk_cell a4.out 0).trans rfl,(blk_cell a4.out 1).trans rfl,((HB.out.cell (World.block_lt_of_cell? w _ hw934_0)).trans hw934_0),((HB.out.cell (World.block_lt_of_cell? w _ hw935_0)).trans hw935_0),((HB.out.cell (World.block_lt_of_cell? w _ hw936_0)).trans hw936_0)⟩ (fun hHeld=>?_);refine with_tabW spec_l9State.tab11 spec_l9State.bits11 (fun HT_ HW_=>?_);generalize wr.drew=m4 at a4 HB b2 a5 a6 a7 hHeld ⊢;refine zqp 0 40 (zqb 33 1) HT_ ?_;refine zqp 2 42 (zqb 33 5) HT_ ?_;refine zqp 5 45 (zqb 33 37) HT_ ?_;refine zqp 7 47 (zqb 33 165) HT_ ?_;refine zqw 1 41 (zqb 33 167) HT_ HW_ hHeld ?_;refine zqp 3 43 (zqb 33 175) HT_ ?_;refine zqw 4 44 (zqb 33 191) HT_ HW_ hHeld ?_;refine zqw 6 46 (zqb 33 255) HT_ HW_ hHeld ?_;refine zqp 8 48 (zqb 33 511) HT_ ?_;refine zqw 9 49 (zqb 33 1023) HT_ HW_ hHeld ?_;refine zqp 10 50 (zqb 33 2047) HT_ ?_;refine zqw 11 51 (zqb 33 4095) HT_ HW_ hHeld ?_;refine zqp 12 52 (zqb 33 8191) HT_ ?_;refine zqp 13 53 (zqb 33 16383) HT_ ?_;refine zqp 14 54 (zqb 33 32767) HT_ ?_;refine zqp 15 55 (zqb 33 65535) HT_ ?_;refine zqp 16 56 (zqb 33 131071) HT_ ?_;refine zqp 17 57 (zqb 33 262143) HT_ ?_;refine zqp 18 58 (zqb 33 524287) HT_ ?_;refine zqp 19 59 (zqb 33 1048575) HT_ ?_;refine zqp 20 60 (zqb 33 2097151) HT_ ?_;refine zqp 21 61 (zqb 33 4194303) HT_ ?_;refine zqp 22 62 (zqb 33 8388607) HT_ ?_
                     refine zqp 23 63 (zqb 33 16777215) HT_ ?_;refine zqp 24 64 (zqb 33 33554431) HT_ ?_;refine zqp 26 66 (zqb 33 100663295) HT_ ?_;refine zqp 27 67 (zqb 33 234881023) HT_ ?_;refine zqw 25 65 (zqb 33 268435455) HT_ HW_ hHeld ?_;refine one_ (i:=28) (N:=some 68) (zqb 33 536870911) rfl rfl (one_of HT_.out zqk) (by decide) (fun K hK=>?_);refine goes_ Try.func94 zqk rfl #[.slice (some b9) l0_0.length c0_0,.int .i64 a0,.int .i64 a3] (by rfl) rfl rfl zq5 ?_;(with_reducible refine(spec_l1Join.calls k2 _ _ l0_0 a0 a3 b6 _ ?side1 ?side2 h9.out).mono ?_);(case side1=> exact zq123);(case side2=>exact g8.out);rintro e w' ⟨rfl,⟨nd,rfl⟩⟩;refine⟨_,rfl,?_⟩;refine hK.out _ _ ⟨(blk_cell a4.out 0).trans rfl,(blk_cell a4.out 1).trans rfl,((HB.out.cell (World.block_lt_of_cell? w _ hw934_0)).trans hw934_0),((HB.out.cell (World.block_lt_of_cell? w _ hw935_0)).trans hw935_0),((HB.out.cell (World.block_lt_of_cell? w _ hw936_0)).trans hw936_0)⟩ (fun hHeld=>?_);clear hK K;refine norm_ (a':=?_) ?_ ?_;rotate_left
                     ·show Act.put _ (some 68) _=_;exact zqs
                     refine zqp 29 69 (zqb 33 1073741823) HT_ ?_;refine zqp 30 70 (zqb 33 2147483647) HT_ ?_;refine zqp 31 71 (zqb 33 4294967295) HT_ ?_;refine zqp 32 72 (zqb 33 8589934591) HT_ ?_;refine done_ (done_of HT_.out zqk) ?_;try go_wp2
                     go_roundg k2
                     (case measure=> exact zq163);case rel=>exact⟨(wrap64 (a3+1)),zq6,H',⟨zq163⟩,⟨zqe a4.out⟩,⟨zq29⟩⟩
                    ·rw [if_neg f0] at H;have g0:((wrap64 ((Int.tmod (b1) 2)+(Int.tmod (b7) 2)))==(Int.tmod (c2) 2))=false:=beq_eq_false_iff_ne.mpr f0;(have c32w0:((IntKind.i64.wrap ((Int.tmod (b1) 2)+(Int.tmod (b7) 2)))==(Int.tmod (c2) 2))=false:=by simp only [i64_w];exact g0);have g1:((wrap64 ((Int.tmod (b1) 2)+(Int.tmod (b7) 2))) !=(Int.tmod (c2) 2))=true:=bne_iff_ne.mpr f0;(have c32w1:((IntKind.i64.wrap ((Int.tmod (b1) 2)+(Int.tmod (b7) 2))) !=(Int.tmod (c2) 2))=true:=by simp only [i64_w];exact g1);obtain rfl:=Option.some.inj H;(try go_wp2);replace a4:=zqm (blk_drew a4.out);replace HB:=zqm (below_drew1 HB.out);have c3:0≤(a0:Int):=zqo;have c8:a0<(l0_0.length:Int):=zqo;obtain⟨b9,g2,d4,f1,a5,b4,b3⟩:=at_L2 e1.out a0 c3 c8;have hw934_0:=a5
                     cases f1
                     replace a5:=(HB.out.cell (World.block_lt_of_cell? w _ a5)).trans a5;have b2:=zqm b3;have f4:=zqm b4;clear b3 b4;replace c3:=eq_true c3;replace c8:=eq_true c8;have c5:0≤(a3:Int):=zqo;have d0:a3<(l0_1.length:Int):=zqo;obtain⟨e3,f2,a6⟩:=Kd.at_int e2.out a3 c5 d0;have hw935_0:=a6;obtain rfl:b0=e3:=(by injection f2);replace a6:=(HB.out.cell (World.block_lt_of_cell? w _ a6)).trans a6;replace c5:=eq_true c5;replace d0:=eq_true d0;have c7:0≤((rd l0_1 a3):Int):=zqo;have d1:(rd l0_1 a3)<((rd_L2 l0_0 a0).length:Int):=zqo;obtain⟨d2,f3,a7⟩:=Kd.at_int b2.out (rd l0_1 a3) c7 d1;have hw936_0:=a7
                     cases f3
                     replace a7:=(HB.out.cell (World.block_lt_of_cell? w _ a7)).trans a7;replace c7:=eq_true c7;replace d1:=eq_true d1;refine start_ (n:=33) (S:=fun w'=>w'.cell? ⟨a8,0,none⟩=some (.slice (some b9) l0_0.length c0_0)∧w'.cell? ⟨a8,1,none⟩=some (.slice (some b0) l0_1.length c0_1)∧w'.cell? (b9.add (a0).toNat)=some (.slice (some d2) (rd_L2 l0_0 a0).length d4)∧w'.cell? (b0.add (a3).toNat)=some (.int .i64 (rd l0_1 a3))∧w'.cell? (d2.add ((rd l0_1 a3)).toNat)=some (.int .i64 (rd (rd_L2 l0_0 a0) (rd l0_1 a3)))) (ds:= []) (zqb 33 0) zqk rfl rfl ⟨(blk_cell a4.out 0).trans rfl,(blk_cell a4.out 1).trans rfl,((HB.out.cell (World.block_lt_of_cell? w _ hw934_0)).trans hw934_0),((HB.out.cell (World.block_lt_of_cell? w _ hw935_0)).trans hw935_0),((HB.out.cell (World.block_lt_of_cell? w _ hw936_0)).trans hw936_0)⟩ (fun hHeld=>?_);refine with_tabW spec_l9State.tab11 spec_l9State.bits11 (fun HT_ HW_=>?_);generalize wr.drew=m5 at a4 HB b2 a5 a6 a7 hHeld ⊢;refine zqp 0 40 (zqb 33 1) HT_ ?_;refine zqp 2 42 (zqb 33 5) HT_ ?_;refine zqp 5 45 (zqb 33 37) HT_ ?_;refine zqp 7 47 (zqb 33 165) HT_ ?_;refine zqw 1 41 (zqb 33 167) HT_ HW_ hHeld ?_;refine zqp 3 43 (zqb 33 175) HT_ ?_;refine zqw 4 44 (zqb 33 191) HT_ HW_ hHeld ?_;refine zqw 6 46 (zqb 33 255) HT_ HW_ hHeld ?_;refine zqp 8 48 (zqb 33 511) HT_ ?_;refine zqw 9 49 (zqb 33 1023) HT_ HW_ hHeld ?_;refine zqp 10 50 (zqb 33 2047) HT_ ?_;refine zqw 11 51 (zqb 33 4095) HT_ HW_ hHeld ?_;refine zqp 12 52 (zqb 33 8191) HT_ ?_;refine zqp 13 53 (zqb 33 16383) HT_ ?_;refine zqp 14 54 (zqb 33 32767) HT_ ?_;refine zqp 15 55 (zqb 33 65535) HT_ ?_;refine zqp 16 56 (zqb 33 131071) HT_ ?_;refine zqp 17 57 (zqb 33 262143) HT_ ?_;refine zqp 18 58 (zqb 33 524287) HT_ ?_;refine zqp 19 59 (zqb 33 1048575) HT_ ?_;refine zqp 20 60 (zqb 33 2097151) HT_ ?_;refine zqp 21 61 (zqb 33 4194303) HT_ ?_;refine zqp 22 62 (zqb 33 8388607) HT_ ?_
                     refine zqp 23 63 (zqb 33 16777215) HT_ ?_;refine zqp 24 64 (zqb 33 33554431) HT_ ?_;refine zqp 26 66 (zqb 33 100663295) HT_ ?_;refine zqp 27 67 (zqb 33 234881023) HT_ ?_;refine zqw 25 65 (zqb 33 268435455) HT_ HW_ hHeld ?_;refine one_ (i:=28) (N:=some 68) (zqb 33 536870911) rfl rfl (one_of HT_.out zqk) (by decide) (fun K hK=>?_);refine goes_ Try.func94 zqk rfl #[.slice (some b9) l0_0.length c0_0,.int .i64 a0,.int .i64 a3] (by rfl) rfl rfl zq5 ?_;(with_reducible refine(spec_l1Join.calls k2 _ _ l0_0 a0 a3 b6 _ ?side1 ?side2 h9.out).mono ?_);(case side1=> exact zq123);(case side2=>exact g8.out);rintro e w' ⟨rfl,⟨nd,rfl⟩⟩;refine⟨_,rfl,?_⟩;refine hK.out _ _ ⟨(blk_cell a4.out 0).trans rfl,(blk_cell a4.out 1).trans rfl,((HB.out.cell (World.block_lt_of_cell? w _ hw934_0)).trans hw934_0),((HB.out.cell (World.block_lt_of_cell? w _ hw935_0)).trans hw935_0),((HB.out.cell (World.block_lt_of_cell? w _ hw936_0)).trans hw936_0)⟩ (fun hHeld=>?_);clear hK K;refine norm_ (a':=?_) ?_ ?_;rotate_left
                     ·show Act.put _ (some 68) _=_;exact zqs
                     refine zqp 29 69 (zqb 33 1073741823) HT_ ?_;refine zqp 30 70 (zqb 33 2147483647) HT_ ?_;refine zqp 31 71 (zqb 33 4294967295) HT_ ?_;refine zqp 32 72 (zqb 33 8589934591) HT_ ?_;refine done_ (done_of HT_.out zqk) ?_;try go_wp2
                     go_ret
                     exact⟨by first|rfl|(simp [errW_none,errW_some] <;> rfl)|(simp only [← d5,← d3,← d8,← d9,← e4,← e0];first|rfl|(simp [errW_none,errW_some] <;> rfl))|(simp [*,errW_none,errW_some] <;> rfl),zq29⟩
                   ·rw [if_neg g3] at H;exact absurd H (by simp)
                  ·rw [if_neg e9] at H;have j0:((rd (rd_L2 l0_0 a0) (rd l0_1 a3))==1)=false:=beq_eq_false_iff_ne.mpr e9;have j1:((rd (rd_L2 l0_0 a0) (rd l0_1 a3)) !=1)=true:=bne_iff_ne.mpr e9;have H':=zqm H;clear H;(try go_wp2);replace a4:=zqm (blk_drew a4.out);replace HB:=zqm (below_drew1 HB.out);have c3:0≤(a0:Int):=zqo;have c8:a0<(l0_0.length:Int):=zqo;obtain⟨b9,g2,d4,f1,a5,b4,b3⟩:=at_L2 e1.out a0 c3 c8;have hw934_0:=a5
                   cases f1
                   replace a5:=(HB.out.cell (World.block_lt_of_cell? w _ a5)).trans a5;have b2:=zqm b3;have f4:=zqm b4;clear b3 b4;replace c3:=eq_true c3;replace c8:=eq_true c8;have c5:0≤(a3:Int):=zqo;have d0:a3<(l0_1.length:Int):=zqo;obtain⟨e3,f2,a6⟩:=Kd.at_int e2.out a3 c5 d0;have hw935_0:=a6;obtain rfl:b0=e3:=(by injection f2);replace a6:=(HB.out.cell (World.block_lt_of_cell? w _ a6)).trans a6;replace c5:=eq_true c5;replace d0:=eq_true d0;have c7:0≤((rd l0_1 a3):Int):=zqo;have d1:(rd l0_1 a3)<((rd_L2 l0_0 a0).length:Int):=zqo;obtain⟨d2,f3,a7⟩:=Kd.at_int b2.out (rd l0_1 a3) c7 d1;have hw936_0:=a7
                   cases f3
                   replace a7:=(HB.out.cell (World.block_lt_of_cell? w _ a7)).trans a7;replace c7:=eq_true c7;replace d1:=eq_true d1;refine start_ (n:=33) (S:=fun w'=>w'.cell? ⟨a8,0,none⟩=some (.slice (some b9) l0_0.length c0_0)∧w'.cell? ⟨a8,1,none⟩=some (.slice (some b0) l0_1.length c0_1)∧w'.cell? (b9.add (a0).toNat)=some (.slice (some d2) (rd_L2 l0_0 a0).length d4)∧w'.cell? (b0.add (a3).toNat)=some (.int .i64 (rd l0_1 a3))∧w'.cell? (d2.add ((rd l0_1 a3)).toNat)=some (.int .i64 (rd (rd_L2 l0_0 a0) (rd l0_1 a3)))) (ds:= []) (zqb 33 0) zqk rfl rfl ⟨(blk_cell a4.out 0).trans rfl,(blk_cell a4.out 1).trans rfl,((HB.out.cell (World.block_lt_of_cell? w _ hw934_0)).trans hw934_0),((HB.out.cell (World.block_lt_of_cell? w _ hw935_0)).trans hw935_0),((HB.out.cell (World.block_lt_of_cell? w _ hw936_0)).trans hw936_0)⟩ (fun hHeld=>?_);refine with_tabW spec_l9State.tab11 spec_l9State.bits11 (fun HT_ HW_=>?_);generalize wr.drew=m6 at a4 HB b2 a5 a6 a7 hHeld ⊢;refine zqp 0 40 (zqb 33 1) HT_ ?_;refine zqp 2 42 (zqb 33 5) HT_ ?_;refine zqp 5 45 (zqb 33 37) HT_ ?_;refine zqp 7 47 (zqb 33 165) HT_ ?_;refine zqw 1 41 (zqb 33 167) HT_ HW_ hHeld ?_;refine zqp 3 43 (zqb 33 175) HT_ ?_;refine zqw 4 44 (zqb 33 191) HT_ HW_ hHeld ?_;refine zqw 6 46 (zqb 33 255) HT_ HW_ hHeld ?_;refine zqp 8 48 (zqb 33 511) HT_ ?_;refine zqw 9 49 (zqb 33 1023) HT_ HW_ hHeld ?_;refine zqp 10 50 (zqb 33 2047) HT_ ?_;refine zqw 11 51 (zqb 33 4095) HT_ HW_ hHeld ?_;refine zqp 12 52 (zqb 33 8191) HT_ ?_;refine zqp 13 53 (zqb 33 16383) HT_ ?_;refine zqu 14 54 (zqb 33 32767) HT_ ?_;refine zqu 15 55 (zqb 33 65535) HT_ ?_;refine zqu 16 56 (zqb 33 131071) HT_ ?_;refine zqu 17 57 (zqb 33 262143) HT_ ?_;refine zqu 18 58 (zqb 33 524287) HT_ ?_;refine zqu 19 59 (zqb 33 1048575) HT_ ?_;refine zqu 20 60 (zqb 33 2097151) HT_ ?_;refine zqu 21 61 (zqb 33 4194303) HT_ ?_;refine zqu 22 62 (zqb 33 8388607) HT_ ?_
                   refine zqu 23 63 (zqb 33 16777215) HT_ ?_;refine zqu 24 64 (zqb 33 33554431) HT_ ?_;refine zqu 25 65 (zqb 33 67108863) HT_ ?_;refine zqu 26 66 (zqb 33 134217727) HT_ ?_;refine zqu 27 67 (zqb 33 268435455) HT_ ?_;refine zqu 28 68 (zqb 33 536870911) HT_ ?_;refine zqu 29 69 (zqb 33 1073741823) HT_ ?_;refine zqu 30 70 (zqb 33 2147483647) HT_ ?_;refine zqu 31 71 (zqb 33 4294967295) HT_ ?_;refine zqp 32 72 (zqb 33 8589934591) HT_ ?_;refine done_ (done_of HT_.out zqk) ?_;try go_wp2
                   go_roundg k2
                   (case measure=> exact zq163);case rel=>exact⟨(wrap64 (a3+1)),zq6,H',⟨zq163⟩,⟨zqe a4.out⟩,⟨zq29⟩⟩
                 ·rw [if_neg h4] at H;exact absurd H (by simp)
                ·rw [if_neg h3] at H;exact absurd H (by simp)
               ·rw [if_neg h2] at H;exact absurd H (by simp)
              ·rw [if_neg h1] at H;exact absurd H (by simp)
             ·rw [if_neg h0] at H;exact absurd H (by simp)
            ·rw [if_neg g9] at H;exact absurd H (by simp)
           ·rw [if_neg f9] at H;have i9:decide (a3<a0)=false:=decide_eq_false f9;clear f9;have H':=zqm H;clear H
            go_wp2
            go_roundg k2
            (case measure=> exact zq163);case rel=>exact⟨(wrap64 (a0+1)),zq6,H',⟨zq163⟩,⟨zqe a4.out⟩,⟨zq29⟩⟩
        ·rw [if_neg e5] at H;have e7:((wrap64 ((Int.tmod (b5) 2)+(Int.tmod (c0) 2)))==1)=false:=beq_eq_false_iff_ne.mpr e5;(have c14w0:((IntKind.i64.wrap ((Int.tmod (b5) 2)+(Int.tmod (c0) 2)))==1)=false:=by simp only [i64_w];exact e7);have e8:((wrap64 ((Int.tmod (b5) 2)+(Int.tmod (c0) 2))) !=1)=true:=bne_iff_ne.mpr e5;(have c14w1:((IntKind.i64.wrap ((Int.tmod (b5) 2)+(Int.tmod (c0) 2))) !=1)=true:=by simp only [i64_w];exact e8);obtain rfl:=Option.some.inj H;have j2:wr.cell? ⟨a8,0,none⟩=some (.slice A0_0 l0_0.length c0_0):=(blk_cell a4.out 0).trans rfl;have j3:wr.cell? ⟨a8,1,none⟩=some (.slice A0_1 l0_1.length c0_1):=(blk_cell a4.out 1).trans rfl;have j6:=blk_frozen a4.out 0;have j7:=blk_frozen a4.out 1;(try go_wp2);replace a4:=zqm (blk_drew a4.out);replace HB:=zqm (below_drew1 HB.out);have d6:0≤(a0:Int):=zqo;have d7:a0<(l0_1.length:Int):=zqo;obtain⟨b0,g7,a9⟩:=Kd.at_int e2.out a0 d6 d7;have hw933_0:=a9
         cases g7
         replace a9:=(HB.out.cell (World.block_lt_of_cell? w _ a9)).trans a9;replace d6:=eq_true d6;replace d7:=eq_true d7;refine start_ (n:=14) (S:=fun w'=>w'.cell? ⟨a8,0,none⟩=some (.slice A0_0 l0_0.length c0_0)∧w'.cell? ⟨a8,1,none⟩=some (.slice (some b0) l0_1.length c0_1)∧w'.cell? (b0.add (a0).toNat)=some (.int .i64 (rd l0_1 a0))) (ds:= []) (zqb 14 0) zqk rfl rfl ⟨(blk_cell a4.out 0).trans rfl,(blk_cell a4.out 1).trans rfl,((HB.out.cell (World.block_lt_of_cell? w _ hw933_0)).trans hw933_0)⟩ (fun hHeld=>?_);refine with_tabW spec_l9State.tab6 spec_l9State.bits6 (fun HT_ HW_=>?_);generalize wr.drew=m7 at a4 HB a9 hHeld ⊢;refine zqp 0 21 (zqb 14 1) HT_ ?_;refine zqp 1 22 (zqb 14 3) HT_ ?_;refine zqp 2 23 (zqb 14 7) HT_ ?_;refine zqp 3 24 (zqb 14 15) HT_ ?_;refine zqp 4 25 (zqb 14 31) HT_ ?_;refine zqp 5 26 (zqb 14 63) HT_ ?_;refine zqp 7 28 (zqb 14 191) HT_ ?_;refine zqw 6 27 (zqb 14 255) HT_ HW_ hHeld ?_;refine zqp 8 29 (zqb 14 511) HT_ ?_;refine zqw 9 30 (zqb 14 1023) HT_ HW_ hHeld ?_;refine zqp 10 31 (zqb 14 2047) HT_ ?_;refine zqp 11 32 (zqb 14 4095) HT_ ?_;refine zqp 12 33 (zqb 14 8191) HT_ ?_;refine zqp 13 34 (zqb 14 16383) HT_ ?_;refine done_ (done_of HT_.out zqk) ?_;try go_wp2
         go_ret
         exact⟨by first|rfl|(simp [errW_none,errW_some] <;> rfl)|(simp only [← d5,← d3,← d8];first|rfl|(simp [errW_none,errW_some] <;> rfl))|(simp [*,errW_none,errW_some] <;> rfl),zq29⟩
       ·rw [if_neg f8] at H;exact absurd H (by simp)
      ·rw [if_neg f7] at H;exact absurd H (by simp)
     ·rw [if_neg c9] at H;have i3:decide (a0<(l0_1.length:Int))=false:=decide_eq_false c9;clear c9;obtain rfl:=Option.some.inj H;have j4:wr.cell? ⟨a8,0,none⟩=some (.slice A0_0 l0_0.length c0_0):=(blk_cell a4.out 0).trans rfl;have j5:wr.cell? ⟨a8,1,none⟩=some (.slice A0_1 l0_1.length c0_1):=(blk_cell a4.out 1).trans rfl;have j8:=blk_frozen a4.out 0;have j9:=blk_frozen a4.out 1
      go_wp2
      go_ret
      exact⟨zq130,zq29⟩
 ·rw [if_neg c4] at H;exact absurd H (by simp)
end
end Go.Proofs.Ytcbjpdaogicibaa.Print
end
