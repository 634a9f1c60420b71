/- Part 1 of what this is proved by: The law of BooleanOk. -/
import Derived.Test.YtcbjpdaogicibaaLB8
import Derived.Below
import Derived.Deep.Draws
import Derived.Deep.AppendLies
import Derived.Maps.AppendAt
import Derived.OwnWalk
import Derived.Laws.BytesArg
import Derived.Laws.MakeOwn
import Derived.Laws.OwnMore
import Derived.Deep.OwnRows
import Derived.Tactics
import Derived.Lib.ConvBytes
import Derived.Laws.Slices
import Derived.WalkKit
import Derived.KernelRfl
import Derived.RowKit3
import Derived.Deep.LoopGhost
import Derived.Deep.QuietTactic
import Derived.BigQuiet
import Derived.WideLaws
import Derived.Deep.DeepCutAuto
import Derived.Deep.CutBlock
import Derived.Deep.RegionHeld3
import Derived.Laws.Rows
import Derived.Lib.AppendStr
import Derived.ArgAppend
import Derived.Laws.IdiomCopy
import Derived.RowKit
import Derived.Test.YtcbjpdaogicibaaProg
import Derived.OrdersHeld
import Derived.Laws.BitsLemmas
import Derived.Laws.Bits64b
set_option linter.all false
section
namespace Go.Proofs.YtcbjpdaogicibaaW.PrintWords
open Go.RowKit
namespace Kd
section
variable {α : Type} {d : Kd α} {e : Nat} {w w1 : World} {base : Nat} {ok ok' : Nat → Prop} {v : Value} {xs : List α}
theorem R_grown (h : d.R e w base ok v xs) {row : Option Nat} (hg : w.grownBy w1 row) (hok : ∀ k, ok k → some k ≠ row) : d.R e w1 base ok v xs := R_step h (fun k ho hk => hg.block k hk (hok k ho))
end
end Kd
end Go.Proofs.YtcbjpdaogicibaaW.PrintWords
end
section
namespace Go.Proofs.YtcbjpdaogicibaaW.PrintWords
open Go.RowKit
def shr (k : IntKind) (x y : Int) : Int := x / 2 ^ min y.toNat k.bits
theorem shr_small {k : IntKind} {x y j : Int} (h : shr k x y = j) (hy : y ≤ k.bits) : x / 2 ^ y.toNat = j := by rw [← h]; unfold shr; rw [Nat.min_eq_left (by omega)]
end Go.Proofs.YtcbjpdaogicibaaW.PrintWords

end
section
namespace Go.Proofs.Ytcbjpdaogicibaa
variable {p : Prop}
theorem zq13 (h:p:=by repeat(first|(with_reducible first|exact HB.out|apply below_alloc|apply pw_below_drewN|apply below_drew1|refine below_set ?_ a7.out)|exact HB.out)):p:=h
theorem zq21 (h:p:=by repeat(first|exact(Kd.S_reads' a2.out).2.2|(with_reducible refine Kd.C_alloc ?_ _)|(with_reducible refine Kd.C_drewN ?_ _)|(with_reducible refine Kd.C_drew ?_))):p:=h
theorem zq24 (h:p:=by repeat(first|exact(Kd.Q_reads' a1.out).2.2|(with_reducible refine Kd.C_alloc ?_ _)|(with_reducible refine Kd.C_drewN ?_ _)|(with_reducible refine Kd.C_drew ?_))):p:=h
theorem zq25 (h:p:=by (with_reducible repeat(first|apply Kd.Q_alloc|apply Kd.Q_drewN|apply Kd.Q_drew));exact a1.out):p:=h
theorem zq27 (h:p:=by repeat(first|exact(Kd.C_below a5.out (by repeat(first|(with_reducible first|exact HB.out|apply below_alloc|apply pw_below_drewN|apply below_drew1|refine below_set ?_ a0.out)|exact HB.out)))|(with_reducible refine Kd.C_alloc ?_ _)|(with_reducible refine Kd.C_drewN ?_ _)|(with_reducible refine Kd.C_drew ?_))):p:=h
theorem zq30 (h:p:=by (with_reducible repeat(first|apply Kd.S_alloc|apply Kd.S_drewN|apply Kd.S_drew));exact a2.out):p:=h
theorem zq57 (h:p:=by repeat(first|(with_reducible first|exact HB.out|apply below_alloc|apply pw_below_drewN|apply below_drew1|refine below_set ?_ a0.out)|exact HB.out)):p:=h
theorem zq76 (h:p:=by repeat(first|exact h3.out|(with_reducible refine Kd.C_alloc ?_ _)|(with_reducible refine Kd.C_drewN ?_ _)|(with_reducible refine Kd.C_drew ?_))):p:=h
theorem zq87 (h:p:=by repeat(first|exact(Kd.C_below a7.out HB.out)|(with_reducible refine Kd.C_alloc ?_ _)|(with_reducible refine Kd.C_drewN ?_ _)|(with_reducible refine Kd.C_drew ?_))):p:=h
theorem zq120 (h:p:=by (try simp only [List.map_toArray,List.map_cons,List.map_nil]);first|done|rfl):p:=h
theorem zq125 (h:p:=by repeat(first|(with_reducible first|exact HB.out|apply below_alloc|apply pw_below_drewN|apply below_drew1|refine below_set ?_ (IsS110.ge a2.out)|refine below_set ?_ a3.out)|exact HB.out)):p:=h
theorem zq146 (h:p:=by (with_reducible repeat(first|apply Kd.Q_alloc|apply Kd.Q_drewN|apply Kd.Q_drew));exact(Kd.Q_mono (Kd.Q_far (p:=⟨a3,1,none⟩) (Kd.Q_far (p:=⟨a3,0,none⟩) (Kd.Q_types a1.out a0.out (by decide)) (fun _ hk=>hk.2) (.slice b7 a4.length b3)) (fun _ hk=>hk.2) (.slice b8 a5.length b4)) (fun _ h_=>h_.1))):p:=h
theorem zq147 (h:p:=by (with_reducible repeat(first|apply Kd.Q_alloc|apply Kd.Q_drewN|apply Kd.Q_drew));exact(Kd.Q_mono (Kd.Q_far (p:=⟨a3,1,none⟩) (Kd.Q_far (p:=⟨a3,0,none⟩) (Kd.Q_types a1.out a0.out (by decide)) (fun _ hk=>hk.2) (.slice b9 a4.length b6)) (fun _ hk=>hk.2) (.slice c4 a5.length c1)) (fun _ h_=>h_.1))):p:=h
theorem zq148 (h:p:=by (with_reducible repeat(first|apply Kd.Q_alloc|apply Kd.Q_drewN|apply Kd.Q_drew));exact(Kd.Q_mono (Kd.Q_far (p:=⟨a3,1,none⟩) (Kd.Q_far (p:=⟨a3,0,none⟩) (Kd.Q_types a1.out a0.out (by decide)) (fun _ hk=>hk.2) (.slice d3 a4.length c8)) (fun _ hk=>hk.2) (.slice d4 a5.length c9)) (fun _ h_=>h_.1))):p:=h
theorem zq149 (h:p:=by (with_reducible repeat(first|apply Kd.Q_alloc|apply Kd.Q_drewN|apply Kd.Q_drew));exact(Kd.Q_mono (Kd.Q_far (p:=⟨a3,1,none⟩) (Kd.Q_far (p:=⟨a3,0,none⟩) (Kd.Q_types a1.out a0.out (by decide)) (fun _ hk=>hk.2) (.slice d5 a4.length d0)) (fun _ hk=>hk.2) (.slice d6 a5.length d1)) (fun _ h_=>h_.1))):p:=h
theorem zq150 (h:p:=by (with_reducible repeat(first|apply Kd.Q_alloc|apply Kd.Q_drewN|apply Kd.Q_drew));exact(Kd.Q_mono (Kd.Q_far (p:=⟨a3,1,none⟩) (Kd.Q_far (p:=⟨a3,0,none⟩) (Kd.Q_types a1.out a0.out (by decide)) (fun _ hk=>hk.2) (.slice d7 a4.length d2)) (fun _ hk=>hk.2) (.slice e4 a5.length d8)) (fun _ h_=>h_.1))):p:=h
theorem zq151 (h:p:=by (with_reducible repeat(first|apply Kd.Q_alloc|apply Kd.Q_drewN|apply Kd.Q_drew));exact(Kd.Q_mono (Kd.Q_far (p:=⟨a3,1,none⟩) (Kd.Q_far (p:=⟨a3,0,none⟩) (Kd.Q_types a1.out a0.out (by decide)) (fun _ hk=>hk.2) (.slice d9 a4.length c5)) (fun _ hk=>hk.2) (.slice e0 a5.length c7)) (fun _ h_=>h_.1))):p:=h
theorem zq152 (h:p:=by (with_reducible repeat(first|apply Kd.Q_alloc|apply Kd.Q_drewN|apply Kd.Q_drew));exact(Kd.Q_mono (Kd.Q_far (p:=⟨a3,1,none⟩) (Kd.Q_far (p:=⟨a3,0,none⟩) (Kd.Q_types a1.out a0.out (by decide)) (fun _ hk=>hk.2) (.slice e7 a4.length e2)) (fun _ hk=>hk.2) (.slice e8 a5.length e3)) (fun _ h_=>h_.1))):p:=h
theorem zq153 (h:p:=by (with_reducible repeat(first|apply Kd.Q_alloc|apply Kd.Q_drewN|apply Kd.Q_drew));exact(Kd.Q_mono (Kd.Q_far (p:=⟨a3,1,none⟩) (Kd.Q_far (p:=⟨a3,0,none⟩) (Kd.Q_types a1.out a0.out (by decide)) (fun _ hk=>hk.2) (.slice e9 a4.length e5)) (fun _ hk=>hk.2) (.slice f0 a5.length e6)) (fun _ h_=>h_.1))):p:=h
theorem zq154 (h:p:=by (with_reducible repeat(first|apply Kd.Q_alloc|apply Kd.Q_drewN|apply Kd.Q_drew));exact(Kd.Q_mono (Kd.Q_far (p:=⟨a3,1,none⟩) (Kd.Q_far (p:=⟨a3,0,none⟩) (Kd.Q_types a1.out a0.out (by decide)) (fun _ hk=>hk.2) (.slice h1 a4.length g7)) (fun _ hk=>hk.2) (.slice g3 a5.length f6)) (fun _ h_=>h_.1))):p:=h
theorem zq189 (h:p:=by (with_reducible repeat(first|apply Kd.S_alloc|apply Kd.S_drewN|apply Kd.S_drew));exact(Kd.S_mono (Kd.S_far (p:=⟨a3,1,none⟩) (Kd.S_far (p:=⟨a3,0,none⟩) (Kd.S_types a2.out a0.out (by decide)) (fun _ hk=>hk.2) (.slice b7 a4.length b3)) (fun _ hk=>hk.2) (.slice b8 a5.length b4)) (fun _ h_=>h_.1))):p:=h
theorem zq190 (h:p:=by (with_reducible repeat(first|apply Kd.S_alloc|apply Kd.S_drewN|apply Kd.S_drew));exact(Kd.S_mono (Kd.S_far (p:=⟨a3,1,none⟩) (Kd.S_far (p:=⟨a3,0,none⟩) (Kd.S_types a2.out a0.out (by decide)) (fun _ hk=>hk.2) (.slice b9 a4.length b6)) (fun _ hk=>hk.2) (.slice c4 a5.length c1)) (fun _ h_=>h_.1))):p:=h
theorem zq191 (h:p:=by (with_reducible repeat(first|apply Kd.S_alloc|apply Kd.S_drewN|apply Kd.S_drew));exact(Kd.S_mono (Kd.S_far (p:=⟨a3,1,none⟩) (Kd.S_far (p:=⟨a3,0,none⟩) (Kd.S_types a2.out a0.out (by decide)) (fun _ hk=>hk.2) (.slice d3 a4.length c8)) (fun _ hk=>hk.2) (.slice d4 a5.length c9)) (fun _ h_=>h_.1))):p:=h
theorem zq192 (h:p:=by (with_reducible repeat(first|apply Kd.S_alloc|apply Kd.S_drewN|apply Kd.S_drew));exact(Kd.S_mono (Kd.S_far (p:=⟨a3,1,none⟩) (Kd.S_far (p:=⟨a3,0,none⟩) (Kd.S_types a2.out a0.out (by decide)) (fun _ hk=>hk.2) (.slice d5 a4.length d0)) (fun _ hk=>hk.2) (.slice d6 a5.length d1)) (fun _ h_=>h_.1))):p:=h
theorem zq193 (h:p:=by (with_reducible repeat(first|apply Kd.S_alloc|apply Kd.S_drewN|apply Kd.S_drew));exact(Kd.S_mono (Kd.S_far (p:=⟨a3,1,none⟩) (Kd.S_far (p:=⟨a3,0,none⟩) (Kd.S_types a2.out a0.out (by decide)) (fun _ hk=>hk.2) (.slice d7 a4.length d2)) (fun _ hk=>hk.2) (.slice e4 a5.length d8)) (fun _ h_=>h_.1))):p:=h
theorem zq194 (h:p:=by (with_reducible repeat(first|apply Kd.S_alloc|apply Kd.S_drewN|apply Kd.S_drew));exact(Kd.S_mono (Kd.S_far (p:=⟨a3,1,none⟩) (Kd.S_far (p:=⟨a3,0,none⟩) (Kd.S_types a2.out a0.out (by decide)) (fun _ hk=>hk.2) (.slice d9 a4.length c5)) (fun _ hk=>hk.2) (.slice e0 a5.length c7)) (fun _ h_=>h_.1))):p:=h
theorem zq195 (h:p:=by (with_reducible repeat(first|apply Kd.S_alloc|apply Kd.S_drewN|apply Kd.S_drew));exact(Kd.S_mono (Kd.S_far (p:=⟨a3,1,none⟩) (Kd.S_far (p:=⟨a3,0,none⟩) (Kd.S_types a2.out a0.out (by decide)) (fun _ hk=>hk.2) (.slice e7 a4.length e2)) (fun _ hk=>hk.2) (.slice e8 a5.length e3)) (fun _ h_=>h_.1))):p:=h
theorem zq196 (h:p:=by (with_reducible repeat(first|apply Kd.S_alloc|apply Kd.S_drewN|apply Kd.S_drew));exact(Kd.S_mono (Kd.S_far (p:=⟨a3,1,none⟩) (Kd.S_far (p:=⟨a3,0,none⟩) (Kd.S_types a2.out a0.out (by decide)) (fun _ hk=>hk.2) (.slice e9 a4.length e5)) (fun _ hk=>hk.2) (.slice f0 a5.length e6)) (fun _ h_=>h_.1))):p:=h
theorem zq197 (h:p:=by (with_reducible repeat(first|apply Kd.S_alloc|apply Kd.S_drewN|apply Kd.S_drew));exact(Kd.S_mono (Kd.S_far (p:=⟨a3,1,none⟩) (Kd.S_far (p:=⟨a3,0,none⟩) (Kd.S_types a2.out a0.out (by decide)) (fun _ hk=>hk.2) (.slice h1 a4.length g7)) (fun _ hk=>hk.2) (.slice g3 a5.length f6)) (fun _ h_=>h_.1))):p:=h
theorem zq260 (h:p:=by repeat (first | exact HB1.out | apply below_alloc | apply pw_below_drewN | apply below_drew1)):p:=h
theorem zq273 (h:p:=by (try simp only [List.map_toArray, List.map_cons, List.map_nil]); first | done | rfl):p:=h
theorem zq284 (h:p:=by repeat(first|exact d3.out|(with_reducible refine Kd.C_alloc ?_ _)|(with_reducible refine Kd.C_drewN ?_ _)|(with_reducible refine Kd.C_drew ?_))):p:=h
theorem zq294 (h:p:=by repeat (first | exact HB3.out | apply below_alloc | apply pw_below_drewN | apply below_drew1)):p:=h
theorem zq307 (h:p:=by (with_reducible repeat (first | apply Kd.R_alloc | apply Kd.R_drewN | apply Kd.R_drew)); exact HO1.out):p:=h
theorem zq309 (h:p:=by repeat(first|exact HB3.out|apply pw_below_drewN|apply below_drew1)):p:=h
theorem zq312 (h:p:=by (with_reducible repeat(first|apply Kd.R_alloc|apply Kd.R_drewN|apply Kd.R_drew));exact d8.out):p:=h
theorem zq313 (h:p:=by (with_reducible repeat(first|apply Kd.R_alloc|apply Kd.R_drewN|apply Kd.R_drew));exact f5.out):p:=h
theorem zq324 (h:p:=by first|go_num|(rw [wrap_small (by omega) (by have:=HLT.out;have:=HM2.out;omega)];go_num)):p:=h
theorem zq325 (h:p:=by first | (rw [← HSI.out]; exact HJj.out) | (rw [← HSI.out]; exact HD.out _ _ _ HJj.out)):p:=h
theorem zq328 (h:p:=by first|rfl|(simp;done)|(simp only [← a6] <;> (first|rfl|simp))|(simp [*];done)):p:=h
theorem zq344 (h:p:=by repeat(first|exact HB4.out|apply pw_below_drewN|apply below_drew1)):p:=h
end Go.Proofs.Ytcbjpdaogicibaa
end
section
namespace Oml
universe u
namespace OL
variable {α : Type u} (L : OL α)
theorem neg_inj {a b : α} (h : L.neg a = L.neg b) : a = b := by
  have := congrArg L.neg h; rwa [L.neg_neg, L.neg_neg] at this
theorem meet_comm (a b : α) : L.meet a b = L.meet b a :=
  L.le_antisymm _ _ (L.le_meet _ _ _ (L.meet_r _ _) (L.meet_l _ _)) (L.le_meet _ _ _ (L.meet_r _ _) (L.meet_l _ _))
theorem meet_le_l {a b c : α} (h : L.le a c) : L.le (L.meet a b) c := L.le_trans _ _ _ (L.meet_l _ _) h
theorem meet_le_r {a b c : α} (h : L.le b c) : L.le (L.meet a b) c := L.le_trans _ _ _ (L.meet_r _ _) h
theorem le_join_l {a b c : α} (h : L.le c a) : L.le c (L.join a b) := L.le_trans _ _ _ h (L.join_l _ _)
theorem le_join_r {a b c : α} (h : L.le c b) : L.le c (L.join a b) := L.le_trans _ _ _ h (L.join_r _ _)
theorem meet_mono {a b c d : α} (h : L.le a c) (k : L.le b d) : L.le (L.meet a b) (L.meet c d) := L.le_meet _ _ _ (L.meet_le_l h) (L.meet_le_r k)
theorem join_mono {a b c d : α} (h : L.le a c) (k : L.le b d) : L.le (L.join a b) (L.join c d) := L.join_le _ _ _ (L.le_join_l h) (L.le_join_r k)
theorem meet_assoc (a b c : α) : L.meet (L.meet a b) c = L.meet a (L.meet b c) :=
  L.le_antisymm _ _ (L.le_meet _ _ _ (L.meet_le_l (L.meet_l _ _)) (L.meet_mono (L.meet_r _ _) (L.le_refl _)))
    (L.le_meet _ _ _ (L.meet_mono (L.le_refl _) (L.meet_l _ _)) (L.meet_le_r (L.meet_r _ _)))
theorem meet_eq_r (a b : α) : L.meet a b = b ↔ L.le b a := by rw [L.meet_comm]; exact L.meet_eq_l b a
theorem join_eq_r (a b : α) : L.join a b = b ↔ L.le a b := by
  constructor
  · intro h; rw [← h]; exact L.join_l _ _
  · intro h; exact L.le_antisymm _ _ (L.join_le _ _ _ h (L.le_refl _)) (L.join_r _ _)
theorem join_eq_l (a b : α) : L.join a b = a ↔ L.le b a := by rw [L.join_comm]; exact L.join_eq_r b a
theorem meet_self (a : α) : L.meet a a = a := (L.meet_eq_l a a).2 (L.le_refl _)
theorem join_self (a : α) : L.join a a = a := (L.join_eq_r a a).2 (L.le_refl _)
theorem neg_join (a b : α) : L.neg (L.join a b) = L.meet (L.neg a) (L.neg b) := by
  apply L.neg_inj
  rw [L.neg_neg, L.neg_meet, L.neg_neg, L.neg_neg]
theorem join_bot (a : α) : L.join a L.bot = a := (L.join_eq_l _ _).2 (L.bot_le _)
theorem le_bot {a : α} (h : L.le a L.bot) : a = L.bot := L.le_antisymm _ _ h (L.bot_le _)
def Keeps : Prop := ∀ a b, L.le a b → L.join a (L.meet b (L.neg a)) = b
def Modular : Prop := ∀ a b c, L.le a c → L.join a (L.meet b c) = L.meet c (L.join a b)
variable {L}
theorem C_refl (a : α) : L.C a a := by unfold C; rw [L.meet_self, L.meet_neg, L.join_bot]
theorem C_neg {a b : α} (h : L.C a b) : L.C a (L.neg b) := by unfold C at *; rw [L.neg_neg, L.join_comm]; exact h
theorem Keeps.dual (K : L.Keeps) {a b : α} (h : L.le a b) : L.meet b (L.join a (L.neg b)) = a := by
  have := K _ _ (L.neg_anti _ _ h)
  have h2 := congrArg L.neg this
  rw [L.neg_join, L.neg_meet, L.neg_neg, L.neg_neg] at h2
  exact h2
theorem Keeps.eq_of (K : L.Keeps) {a b : α} (h : L.le a b) (k : L.meet b (L.neg a) = L.bot) : a = b := by
  have := K _ _ h; rw [k, L.join_bot] at this; exact this
theorem Keeps.C_symm (K : L.Keeps) {a b : α} (h : L.C a b) : L.C b a := by
  have h1 : L.meet (L.neg a) b = L.meet (L.neg (L.meet a b)) b := by
    have e:L.neg a=L.meet (L.neg (L.meet a b)) (L.neg (L.meet a (L.neg b))):=by rw [← L.neg_join,h]
    rw [e,L.meet_assoc]
    congr 1
    apply L.le_antisymm
    · exact L.meet_r _ _
    · refine L.le_meet _ _ _ ?_ (L.le_refl _)
      rw [L.neg_meet,L.neg_neg]
      exact L.join_r _ _
  have h2:=K _ _ (L.meet_r a b)
  unfold C
  rw [L.meet_comm b a,L.meet_comm b (L.neg a),h1,L.meet_comm (L.neg (L.meet a b)) b]
  exact h2
theorem Keeps.proj_of_C (K : L.Keeps) {a b : α} (h : L.C a b) : L.meet a (L.join (L.neg a) b) = L.meet a b := by
  have hb:=K.C_symm h
  have e : L.join (L.neg a) b = L.join (L.neg a) (L.meet b a) := by
    apply L.le_antisymm
    · refine L.join_le _ _ _ (L.join_l _ _) ?_
      have h0 : L.le (L.join (L.meet b a) (L.meet b (L.neg a))) (L.join (L.neg a) (L.meet b a)) :=
        L.join_le _ _ _ (L.join_r _ _) (L.le_join_l (L.meet_r _ _))
      rwa [show L.join (L.meet b a) (L.meet b (L.neg a))=b from hb] at h0
    · exact L.join_mono (L.le_refl _) (L.meet_l _ _)
  rw [e,L.join_comm,L.meet_comm a b]
  exact K.dual (L.meet_r _ _)
theorem Keeps.fh1 (K : L.Keeps) {a b c : α} (hb : L.C a b) (hc : L.C a c) : L.Split a b c := by
  refine Eq.symm (?_:_=_)
  have hle : L.le (L.join (L.meet a b) (L.meet a c)) (L.meet a (L.join b c)) :=
    L.join_le _ _ _ (L.meet_mono (L.le_refl _) (L.join_l _ _)) (L.meet_mono (L.le_refl _) (L.join_r _ _))
  refine K.eq_of hle ?_
  rw [L.neg_join,L.neg_meet,L.neg_meet]
  have eb:=K.proj_of_C (C_neg hb)
  have ec:=K.proj_of_C (C_neg hc)
  apply L.le_bot
  have h1 : L.le (L.meet (L.meet a (L.join b c)) (L.meet (L.join (L.neg a) (L.neg b)) (L.join (L.neg a) (L.neg c)))) (L.meet a (L.neg b)) := by
    rw [← eb]
    exact L.le_meet _ _ _ (L.meet_le_l (L.meet_l _ _)) (L.meet_le_r (L.meet_l _ _))
  have h2 : L.le (L.meet (L.meet a (L.join b c)) (L.meet (L.join (L.neg a) (L.neg b)) (L.join (L.neg a) (L.neg c)))) (L.meet a (L.neg c)) := by
    rw [← ec]
    exact L.le_meet _ _ _ (L.meet_le_l (L.meet_l _ _)) (L.meet_le_r (L.meet_r _ _))
  have h3:L.le (L.meet (L.meet a (L.join b c)) (L.meet (L.join (L.neg a) (L.neg b)) (L.join (L.neg a) (L.neg c)))) (L.join b c):=L.meet_le_l (L.meet_r _ _)
  have h4:=L.le_meet _ _ _ (L.le_trans _ _ _ h1 (L.meet_r _ _)) (L.le_trans _ _ _ h2 (L.meet_r _ _))
  rw [← L.neg_join] at h4
  have h5:=L.le_meet _ _ _ h3 h4
  rwa [L.meet_neg] at h5
theorem Boolean.modular (B : L.Boolean) : L.Modular := by
  intro a b c h
  have := B c a b
  unfold Split at this
  rw [this, (L.meet_eq_r c a).2 h, L.meet_comm b c]
theorem Modular.keeps (M : L.Modular) : L.Keeps := by
  intro a b h
  have := M a (L.neg a) b h
  rw [L.join_neg, L.meet_top] at this
  rwa [L.meet_comm] at this
theorem Boolean.keeps (B : L.Boolean) : L.Keeps := B.modular.keeps
theorem boolean_iff : L.Boolean ↔ L.Keeps ∧ ∀ a b, L.C a b :=
  ⟨fun B => ⟨B.keeps, B.C⟩, fun ⟨K, h⟩ a b c => K.fh1 (h a b) (h a c)⟩
structure High (L : OL α) (h : α → Nat) : Prop where
  mono : ∀ a b, L.le a b → a ≠ b → h a < h b
  step : ∀ a, h a ≠ 0 → ∃ b, L.le b a ∧ b ≠ a ∧ h b + 1 = h a
theorem High.eq {h : α → Nat} (H : L.High h) {a b : α} (k : L.le a b) (e : h b ≤ h a) : a = b := by
  apply Classical.byContradiction
  intro ne
  have := H.mono _ _ k ne
  omega
theorem High.bot_iff {h : α → Nat} (H : L.High h) (a : α) : h a = 0 ↔ a = L.bot := by
  constructor
  · intro e
    exact (H.eq (L.bot_le a) (by omega)).symm
  · rintro rfl
    apply Classical.byContradiction
    intro ne
    obtain ⟨b, hb, hne, _⟩ := H.step _ ne
    exact hne (L.le_bot hb)
def Atom (L : OL α) (p : α) : Prop := p ≠ L.bot ∧ ∀ b, L.le b p → b = L.bot ∨ b = p
theorem Boolean.atom_prime (B : L.Boolean) {p : α} (hp : L.Atom p) (a b : α) : L.le p (L.join a b) ↔ L.le p a ∨ L.le p b := by
  constructor
  · intro h
    have e:=B p a b
    unfold Split at e
    rw [(L.meet_eq_l _ _).2 h] at e
    rcases hp.2 (L.meet p a) (L.meet_l _ _) with h1|h1
    · rcases hp.2 (L.meet p b) (L.meet_l _ _) with h2 | h2
      · rw [h1,h2,L.join_self] at e;exact absurd e hp.1
      · exact .inr ((L.meet_eq_l _ _).1 h2)
    · exact .inl ((L.meet_eq_l _ _).1 h1)
  · rintro (h | h)
    · exact L.le_join_l h
    · exact L.le_join_r h
end OL
end Oml
end
section
namespace Oml
theorem allN_false {n : Nat} {p : Nat → Bool} : allN n p = false ↔ ∃ i, i < n ∧ p i = false := by
  rw [← Bool.not_eq_true,allN_iff]
  constructor
  · intro h
    apply Classical.byContradiction
    intro k
    exact h fun i hi => by
      cases e:p i
      · exact absurd ⟨i,hi,e⟩ k
      · rfl
  · rintro ⟨i, hi, e⟩ h
    rw [h i hi] at e
    exact absurd e (by simp)
end Oml
end
section
namespace Go.Proofs.Ytcbjpdaogicibaa.Print
open Go.RowKit Go.Proofs.YtcbjpdaogicibaaW.PrintWords Go.Proofs.YtcbjpdaogicibaaW.PrintLast Go.Proofs.YtcbjpdaogicibaaW.PrintMore
open Oml
section
variable {U : List (List Int)} {N : List Int} (L : Logic U N)
include L
theorem _root_.Oml.Logic.in_or {a b : Int} (ha : In U a) (hb : In U b) : In U (orI U a b) := by
  obtain⟨m,hm⟩:=Option.isSome_iff_exists.1 (L.joins a.toNat b.toNat (by have:=ha.1;have:=ha.2;omega) (by have:=hb.1;have:=hb.2;omega))
  have:=(findN_some hm).1
  unfold In orI jI;rw [hm];simp only [optI];omega
end
end Go.Proofs.Ytcbjpdaogicibaa.Print
end
section
namespace Go.Proofs.Ytcbjpdaogicibaa.Print
open Go.RowKit Go.Proofs.YtcbjpdaogicibaaW.PrintWords Go.Proofs.YtcbjpdaogicibaaW.PrintLast Go.Proofs.YtcbjpdaogicibaaW.PrintMore
open Oml
theorem ofInt_nat (a : Nat) (ha : a < 18446744073709551616) : (BitVec.ofInt 64 (a : Int)).toNat = a := by
  rw [BitVec.ofInt_natCast, BitVec.toNat_ofNat]; exact Nat.mod_eq_of_lt (by omega)
theorem band_nat (a b : Nat) (ha : a < 4611686018427387904) (hb : b < 4611686018427387904) : Go.bits .and .i64 (a : Int) (b : Int) = ((a &&& b : Nat) : Int) := by
  have hx:a &&& b<2 ^ 62:=Nat.and_lt_two_pow _ (by omega)
  show IntKind.i64.wrap ((BitVec.ofInt 64 (a:Int) &&& BitVec.ofInt 64 (b:Int)).toNat:Int)=_
  rw [BitVec.toNat_and,ofInt_nat a (by omega),ofInt_nat b (by omega),i64_w]
  unfold wrap64;omega
theorem bor_nat (a b : Nat) (ha : a < 4611686018427387904) (hb : b < 4611686018427387904) : Go.bits .or .i64 (a : Int) (b : Int) = ((a ||| b : Nat) : Int) := by
  have hx:a|||b<2 ^ 62:=Nat.or_lt_two_pow (by omega) (by omega)
  show IntKind.i64.wrap ((BitVec.ofInt 64 (a:Int)|||BitVec.ofInt 64 (b:Int)).toNat:Int)=_
  rw [BitVec.toNat_or,ofInt_nat a (by omega),ofInt_nat b (by omega),i64_w]
  unfold wrap64;omega
theorem two_pow_le {i : Nat} (h : i ≤ 40) : (2 : Nat) ^ i ≤ 1099511627776 := Nat.pow_le_pow_right (by omega) h
theorem cast_pow (i : Nat) : (2 : Int) ^ i = ((2 ^ i : Nat) : Int) := by rw [Int.natCast_pow]; rfl
theorem shl_nat {i : Nat} (h : i ≤ 40) : shl .i64 1 (i : Int) = ((2 ^ i : Nat) : Int) := by
  unfold shl
  have h2 := two_pow_le h
  rw [Int.toNat_natCast, Nat.min_eq_left (by show i ≤ 64; omega), Int.one_mul, cast_pow, i64_w]
  generalize 2 ^ i = x at h2 ⊢
  unfold wrap64; omega
theorem wshl_nat {i : Nat} (h : i ≤ 40) : IntKind.i64.wrap (2 ^ i) = ((2 ^ i : Nat) : Int) := by
  have := shl_nat h
  unfold shl at this
  rwa [Int.toNat_natCast, Nat.min_eq_left (by show i ≤ 64; omega), Int.one_mul] at this
theorem shr_nat (s : Nat) {i : Nat} (h : i ≤ 64) : shr .i64 (s : Int) (i : Int) = ((s / 2 ^ i : Nat) : Int) := by
  unfold shr
  rw [Int.toNat_natCast, Nat.min_eq_left (by show i ≤ 64; omega), cast_pow]
  rfl
theorem testBit_div (s i : Nat) : s.testBit i = decide (s / 2 ^ i % 2 = 1) := Nat.testBit_eq_decide_div_mod_eq
theorem setB_bit (n : Nat) (p : Nat → Bool) (i : Nat) : (setB n p).testBit i = (decide (i < n) && p i) := by
  induction n with
  |zero=>simp [setB]
  | succ n ih =>
    simp only [setB,Nat.testBit_or,ih]
    by_cases e:i=n
    · subst e
      cases h:p i <;> simp [h,Nat.testBit_two_pow]
    · have : (if p n = true then 2 ^ n else 0).testBit i = false := by
        split
        · rw [Nat.testBit_two_pow];simp;omega
        · simp
      rw [this,Bool.or_false]
      congr 1
      rw [Bool.eq_iff_iff];simp;omega
theorem setB_lt (n : Nat) (p : Nat → Bool) : setB n p < 2 ^ n := by
  refine Nat.lt_pow_two_of_testBit _ fun i hi => ?_
  rw [setB_bit]; simp; omega
theorem setB_small {n : Nat} (h : n ≤ 40) (p : Nat → Bool) : setB n p < 1099511627776 := by have := setB_lt n p; have := two_pow_le h; omega
theorem setB_congr {n : Nat} {p q : Nat → Bool} (h : ∀ i, i < n → p i = q i) : setB n p = setB n q := by
  refine Nat.eq_of_testBit_eq fun i => ?_
  rw [setB_bit, setB_bit]
  by_cases hi : i < n
  · rw [h i hi]
  · simp [hi]
theorem setB_inj {n : Nat} {p q : Nat → Bool} (h : setB n p = setB n q) {i : Nat} (hi : i < n) : p i = q i := by
  have := congrArg (fun s => s.testBit i) h
  simpa [setB_bit, hi] using this
theorem setB_or (n : Nat) (p q : Nat → Bool) : setB n p ||| setB n q = setB n fun i => p i || q i := by
  refine Nat.eq_of_testBit_eq fun i => ?_
  rw [Nat.testBit_or, setB_bit, setB_bit, setB_bit]
  cases decide (i < n) <;> simp
theorem setB_and (n : Nat) (p q : Nat → Bool) : setB n p &&& setB n q = setB n fun i => p i && q i := by
  refine Nat.eq_of_testBit_eq fun i => ?_
  rw [Nat.testBit_and, setB_bit, setB_bit, setB_bit]
  cases decide (i < n) <;> simp
theorem setB_one {n k : Nat} (h : k < n) : 2 ^ k = setB n fun i => i == k := by
  refine Nat.eq_of_testBit_eq fun i => ?_
  rw [setB_bit, Nat.testBit_two_pow]
  rw [Bool.eq_iff_iff]; simp; omega
theorem setB_all (n : Nat) : 2 ^ n - 1 = setB n fun _ => true := by
  refine Nat.eq_of_testBit_eq fun i => ?_
  rw [setB_bit, Nat.testBit_two_pow_sub_one]; simp
theorem setB_none (n : Nat) : setB n (fun _ => false) = 0 := by
  refine Nat.eq_of_testBit_eq fun i => ?_
  rw [setB_bit]; simp
end Go.Proofs.Ytcbjpdaogicibaa.Print
end
section
namespace Go.Proofs.Ytcbjpdaogicibaa.Print
open Go.RowKit Go.Proofs.YtcbjpdaogicibaaW.PrintWords Go.Proofs.YtcbjpdaogicibaaW.PrintLast Go.Proofs.YtcbjpdaogicibaaW.PrintMore
def impl_has.f (a0 : Int) (a1 : Int) : Option (Bool) := if 0 ≤ a1 then (some ((Go.bits .and .i64 (shr .i64 a0 a1) 1) == 1)) else (none)
set_option maxHeartbeats 8000000 in
set_option maxRecDepth 100000 in
theorem impl_has.calls (a0 : Int) (a1 : Int) (r : Bool) (w : World) (h : impl_has.f a0 a1 = some r) :
  Calls Try.prog 88 #[.int .i64 a0, .int .i64 a1] w fun e w' => e = .returned (.bool r) ∧ Drawn0 w w' := by
 have H : (if 0 ≤ a1 then (some ((Go.bits .and .i64 (shr .i64 a0 a1) 1) == 1)) else (none)) = some r := h
 clear h
 by_cases c3 : 0 ≤ a1
 ·rw [if_pos c3] at H
  have c3b0 := eq_true c3
  have c3b1 : decide (0 ≤ a1) = true := decide_eq_true c3
  clear c3
  obtain ⟨ji4, hji4⟩ : ∃ j_ : Int, (shr .i64 a0 a1) = j_ := ⟨_, rfl⟩
  replace H : (some ((Go.bits .and .i64 (ji4) 1) == 1)) = some r := by first | (rw [hji4] at H; exact H) | (simp only [hji4] at H ⊢; exact H)
  have hji4_ : (a0 / 2 ^ min a1.toNat 64) = ji4 := hji4
  have hji4z : a1 ≤ 64 → (a0 / 2 ^ a1.toNat) = ji4 := shr_small hji4
  obtain rfl := Option.some.inj H
  go_enter Try.func88, Try.ntmps88
  go_wp2
  go_ret
  exact ⟨by first | rfl | (simp; done) | (simp only [← hji4] <;> (first | rfl | simp)) | (simp [*]; done), by repeat (first | exact Drawn0.refl _ | apply Drawn0.step)⟩
 ·rw [if_neg c3] at H
  exact absurd H (by simp)
end Go.Proofs.Ytcbjpdaogicibaa.Print
end
section
namespace Go.Proofs.Ytcbjpdaogicibaa.Print
open Go.RowKit Go.Proofs.YtcbjpdaogicibaaW.PrintWords Go.Proofs.YtcbjpdaogicibaaW.PrintLast Go.Proofs.YtcbjpdaogicibaaW.PrintMore
open Oml
theorem has_nat (s : Nat) (hs : s < 4611686018427387904) {i : Nat} (h : i ≤ 64) : impl_has.f (s : Int) (i : Int) = some (s.testBit i) := by
  unfold impl_has.f
  rw [if_pos (by omega),shr_nat s h,show (1:Int)=((1:Nat):Int) from rfl,band_nat _ _ (Nat.lt_of_le_of_lt (Nat.div_le_self _ _) hs) (by omega),Nat.and_one_is_mod,testBit_div]
  have h2:s / 2 ^ i % 2=0∨s / 2 ^ i % 2=1:=by omega
  rcases h2 with h2|h2 <;> rw [h2] <;> rfl
def splitB (U : List (List Int)) (a b c : Int) : Bool := andI U a (orI U b c) == orI U (andI U a b) (andI U a c)
theorem alg_with0.reads (g : Nat) (U : List (List Int)) (N : List Int) (v : Adr) (a : Int) (b : Int) (w : World) (L : Logic U N) (hV : View w g U N v) (ia : In U a) (ib : In U b) :
    Calls Try.prog 150 #[.pointer (some ⟨g,0,none⟩),.int .i64 a,.int .i64 b] w fun e w'=>e= .returned (.bool ((orI U (andI U a b) (andI U a (notI N b)))==a))∧Drawn0 w w':=by
  have hu70:=Try.underlying74
  have HV:=Aside0.mk hV
  have HLg:=Aside0.mk L
  have Ia:=Aside0.mk ia
  have Ib:=Aside0.mk ib
  clear hV L ia ib
  have b0_:=eq_true Ia.out.1;have c0_:=eq_true Ia.out.2
  have b1_:=eq_true Ib.out.1;have c1_:=eq_true Ib.out.2
  have hf1_:=HV.out.f1
  have r3_:=HV.out.m a Ia.out
  have s4_:=HV.out.m2 a b Ia.out Ib.out
  have hf3_:=HV.out.f3
  have n6_:=HV.out.n b Ib.out
  have IN1_:=Aside0.mk (HLg.out.in_not Ib.out)
  have b7_:=eq_true IN1_.out.1;have c7_:=eq_true IN1_.out.2
  have s8_:=HV.out.m2 a (notI N b) Ia.out IN1_.out
  have IN2_:=Aside0.mk (HLg.out.in_and Ia.out Ib.out)
  have b9_:=eq_true IN2_.out.1;have c9_:=eq_true IN2_.out.2
  have IN3_:=Aside0.mk (HLg.out.in_and Ia.out IN1_.out)
  have b10_:=eq_true IN3_.out.1;have c10_:=eq_true IN3_.out.2
  have hf2_:=HV.out.f2
  have r12_:=HV.out.j (andI U a b) IN2_.out
  have s13_:=HV.out.j2 (andI U a b) (andI U a (notI N b)) IN2_.out IN3_.out
  go_enter Try.func150,Try.ntmps150
  go_wp2_with fail
  go_quiet (fail)
  go_wp2
  go_ret
  exact⟨rfl,⟨⟨_,rfl⟩⟩⟩
theorem alg_with.reads (g : Nat) (U : List (List Int)) (N : List Int) (v : Adr) (a b : Int) (w : World) (L : Logic U N) (hV : View w g U N v) (ia : In U a) (ib : In U b) :
    Calls Try.prog 150 #[.pointer (some ⟨g,0,none⟩),.int .i64 a,.int .i64 b] w fun e w'=>e= .returned (.bool (withB U N a b))∧Drawn0 w w':=alg_with0.reads g U N v a b w L hV ia ib
theorem alg_both.reads (g : Nat) (U : List (List Int)) (N : List Int) (v : Adr) (a b : Int) (w : World) (L : Logic U N) (hV : View w g U N v) (ia : In U a) (ib : In U b) :
    Calls Try.prog 138 #[.pointer (some ⟨g,0,none⟩),.int .i64 a,.int .i64 b] w fun e w'=>e= .returned (.bool (bothB U N a b))∧Drawn0 w w':=by
  have HV:=Aside0.mk hV
  have HLg:=Aside0.mk L
  have Ia:=Aside0.mk ia
  have Ib:=Aside0.mk ib
  clear hV L ia ib
  unfold bothB
  obtain⟨p,hp⟩: ∃p,withB U N a b=p:=⟨_,rfl⟩
  obtain⟨q,hq⟩: ∃q,withB U N b a=q:=⟨_,rfl⟩
  have HP:=Aside0.mk hp
  have HQ:=Aside0.mk hq
  rw [hp,hq]
  clear hp hq
  cases p with
  | false =>
    go_enter Try.func138,Try.ntmps138
    go_wp2_with (go_at_call 150;(with_reducible refine(alg_with.reads g U N v a b _ HLg.out ?s1 Ia.out Ib.out).mono ?_);(case s1=>repeat(first|exact HV.out|apply View.drewN));rintro e w' ⟨he,⟨⟨nd,rfl⟩⟩⟩;rw [HP.out] at he;subst he)
    go_ret
    exact⟨by first|rfl|simp,⟨⟨_,rfl⟩⟩⟩
  | true =>
    go_enter Try.func138,Try.ntmps138
    go_wp2_with (first|(go_at_call 150;(with_reducible refine(alg_with.reads g U N v a b _ HLg.out ?s1 Ia.out Ib.out).mono ?_);(case s1=>repeat(first|exact HV.out|apply View.drewN));rintro e w' ⟨he,⟨⟨nd,rfl⟩⟩⟩;rw [HP.out] at he;subst he)|(go_at_call 150;(with_reducible refine(alg_with.reads g U N v b a _ HLg.out ?s1 Ib.out Ia.out).mono ?_);(case s1=>repeat(first|exact HV.out|apply View.drewN));rintro e w' ⟨he,⟨⟨nd2,rfl⟩⟩⟩;rw [HQ.out] at he;subst he))
    go_ret
    exact⟨by first|rfl|simp,⟨⟨_,rfl⟩⟩⟩
theorem goesV_ {P : Program} {ops : Array Oper} {Q : Exit → Act → World → Prop} {rest : List Oper} {oi : Oper} {a : Act} {w : World} (N : Option Tmp) (hd : oi.dst = N) (hg : oi.guard = none) {f : FuncId} {fn : Func} {x : Operand} {xo : Array Operand} {ts : Array TypeId} {cs : Array Value}
    (hf : P.funcs[f]? = some fn) (hname : (fn.name == "runtime.NumGoroutine") = false) (hb : fn.body.isSome = true) (args : Array Value)
    (hop : oi.op = .call { callee := .value x, args := xo, argTypes := ts }) (hx : a.eval x = .func (.func f) #[] cs) (hargs : xo.map a.eval = args)
    (h : Calls P f (args ++ cs) w fun e w' => ∃ v, e = .returned v ∧ wpList P ops Q rest (a.put N v) w') : wpList P ops Q (oi :: rest) a w := by
  refine wpList_plain hg fun K hK => ?_
  have he := enters_ hf hname hb (args ++ cs) w
  have hrun : (execOp a.eval oi).run P w = .ok (.enter f (args ++ cs)) w := by
    unfold execOp
    simp [hop, resolve, Deferred.ofValue, invoke, hx, hargs, he]
  unfold Oper.wp
  rw [hrun, Oper.upon_enter]
  refine h.mono fun e w'' hh => ?_
  obtain ⟨v, rfl, hk⟩ := hh
  subst hd
  exact hK _ _ hk
set_option maxHeartbeats 1000000 in
set_option maxRecDepth 100000 in
theorem every_calls (g : Nat) (U : List (List Int)) (N : List Int) (v : Adr) (w : World) (hs : U.length ≤ 12) (fv : Nat) (fn : Func) (cs : Array Value) (hf : Try.prog.funcs[fv]? = some fn) (hname : (fn.name == "runtime.NumGoroutine") = false) (hb : fn.body.isSome = true)
    (p : Nat → Nat → Bool) (J : Nat → World → Prop) (hV : ∀ i w', J i w' → View w' g U N v) (hD : ∀ i w' n, J i w' → J i (w'.drewN n)) (h0 : J 0 w)
    (step : ∀ a b : Nat, a < U.length → b < U.length → ∀ w', J (a * U.length + b) w' → Calls Try.prog fv (#[.int .i64 a, .int .i64 b] ++ cs) w' fun e w'' => e = .returned (.bool (p a b)) ∧ J (a * U.length + b + 1) w'') :
    Calls Try.prog 71 #[.pointer (some ⟨g, 0, none⟩), .func (.func fv) #[] cs] w fun e w' =>
      e = .returned (.bool (allN U.length fun a => allN U.length fun b => p a b)) ∧ ∃ i, J i w' ∧ ((allN U.length fun a => allN U.length fun b => p a b) = true → i = U.length * U.length) := by
  obtain ⟨r, hr⟩ : ∃ r, r = allN U.length fun a => allN U.length fun b => p a b := ⟨_, rfl⟩
  rw [← hr]
  have hu70 := Try.underlying74
  have HF := Aside0.mk hf
  have HNM := Aside0.mk hname
  have HBD := Aside0.mk hb
  have HV := Aside0.mk hV
  have HD := Aside0.mk hD
  have HJ0 := Aside0.mk h0
  have HST := Aside0.mk step
  have HR := Aside0.mk hr
  have hf0 := (hV 0 w h0).f0
  clear hf hname hb hV hD h0 step hr
  go_enter Try.func71, Try.ntmps71
  go_wp2_with fail
  go_loopg [12] (U.length + 1) (fun kq v12 W => ∃ i s : Nat, v12 = .int .i64 i ∧ Aside0 (i + kq = U.length + 1) ∧ Aside0 (i ≤ U.length) ∧ Aside0 (s = i * U.length) ∧ Aside0 (∀ a, a < i → ∀ b, b < U.length → p a b = true) ∧ Aside0 (J s W))
  case atStart => exact ⟨0, 0, rfl, ⟨by omega⟩, ⟨by omega⟩, ⟨by simp⟩, ⟨fun j hj => absurd hj (by omega)⟩, ⟨by first | exact HJ0.out | exact HD.out _ _ _ HJ0.out⟩⟩
  case round =>
    clear hf0
    obtain ⟨i, s, rfl, HK, HK2, HSI, HS, HJ⟩ := hrel
    have hf0 := (HV.out _ _ HJ.out).f0
    cases gk with
    | zero => exact absurd HK.out (by have := HK2.out; omega)
    | succ kn =>
    by_cases hlt : i < U.length
    · have hlt' : decide (i < U.length) = true := decide_eq_true hlt
      have HLT := Aside0.mk hlt
      clear hlt
      go_wp2_with fail
      go_loopg [20] (U.length + 1) (fun kq v20 W => ∃ j : Nat, v20 = .int .i64 j ∧ Aside0 (j + kq = U.length + 1) ∧ Aside0 (j ≤ U.length) ∧ Aside0 (∀ b, b < j → p i b = true) ∧ Aside0 (J (s + j) W))
      case atStart => exact ⟨0, rfl, ⟨by omega⟩, ⟨by omega⟩, ⟨fun j hj => absurd hj (by omega)⟩, ⟨by first | exact HJ.out | exact HD.out _ _ _ HJ.out⟩⟩
      case round =>
        clear hf0
        obtain ⟨j, rfl, HKj, HKj2, HSj, HJj⟩ := hrel
        cases gk with
        | zero => exact absurd HKj.out (by have := HKj2.out; omega)
        | succ kj =>
        by_cases hlj : j < U.length
        · have hlj' : decide (j < U.length) = true := decide_eq_true hlj
          have HLJ := Aside0.mk hlj
          clear hlj
          cases hp : p i j with
          | true =>
            have HP := Aside0.mk hp
            clear hp
            go_wp2_with (refine goesV_ (some 26) rfl rfl HF.out HNM.out HBD.out #[.int .i64 i, .int .i64 j] rfl rfl zq273 ?_; refine (HST.out i j HLT.out HLJ.out _ ?sJ).mono ?_; (case sJ => exact zq325); rintro e w1 ⟨he, hj⟩; rw [HP.out] at he; subst he; refine ⟨_, rfl, ?_⟩; have HJ1 := Aside0.mk hj; clear hj)
            go_roundg kj
            case measure => omega
            case rel => exact ⟨j + 1, by first | go_num | (rw [wrap_small (by omega) (by have := HLJ.out; omega)]; go_num), ⟨by have := HKj.out; omega⟩, ⟨by have := HLJ.out; omega⟩, ⟨fun b hb => by
              rcases Nat.lt_or_ge b j with h | h
              · exact HSj.out b h
              · obtain rfl : b = j := by omega
                exact HP.out⟩, ⟨by have h1 := HJ1.out; rw [← HSI.out, Nat.add_assoc] at h1; first | exact h1 | exact HD.out _ _ _ h1⟩⟩
          | false =>
            have HP := Aside0.mk hp
            clear hp
            have hrf : r = false := by
              rw [HR.out]
              exact allN_false.2 ⟨i, HLT.out, allN_false.2 ⟨j, HLJ.out, HP.out⟩⟩
            subst hrf
            go_wp2_with (refine goesV_ (some 26) rfl rfl HF.out HNM.out HBD.out #[.int .i64 i, .int .i64 j] rfl rfl zq273 ?_; refine (HST.out i j HLT.out HLJ.out _ ?sJ).mono ?_; (case sJ => exact zq325); rintro e w1 ⟨he, hj⟩; rw [HP.out] at he; subst he; refine ⟨_, rfl, ?_⟩; have HJ1 := Aside0.mk hj; clear hj)
            go_ret
            exact ⟨rfl, _, by first | exact HJ1.out | exact HD.out _ _ _ HJ1.out, fun h => by cases h⟩
        · have hlj' : decide (j < U.length) = false := decide_eq_false hlj
          obtain rfl : j = U.length := by have := HKj2.out; omega
          clear hlj
          go_wp2_with fail
          go_roundg kn
          case measure => omega
          case rel => exact ⟨i + 1, s + U.length, by first | go_num | (rw [wrap_small (by omega) (by have := HLT.out; omega)]; go_num), ⟨by have := HK.out; omega⟩, ⟨by have := HLT.out; omega⟩, ⟨by rw [Nat.succ_mul, HSI.out]⟩, ⟨fun a ha => by
            rcases Nat.lt_or_ge a i with h | h
            · exact HS.out a h
            · obtain rfl : a = i := by omega
              exact HSj.out⟩, ⟨by first | exact HJj.out | exact HD.out _ _ _ HJj.out⟩⟩
    · have hlt' : decide (i < U.length) = false := decide_eq_false hlt
      obtain rfl : i = U.length := by have := HK2.out; omega
      have hrt : r = true := by
        rw [HR.out, allN_iff]
        intro a ha
        exact allN_iff.2 (HS.out a ha)
      subst hrt
      clear hlt
      go_wp2_with fail
      go_ret
      have hj := HJ.out
      rw [HSI.out] at hj
      exact ⟨rfl, by first | exact hj | exact HD.out _ _ _ hj⟩
theorem every_pure (g : Nat) (U : List (List Int)) (N : List Int) (v : Adr) (w : World) (hs : U.length ≤ 12) (hV : View w g U N v) (fv : Nat) (fn : Func) (cs : Array Value) (hf : Try.prog.funcs[fv]? = some fn) (hname : (fn.name == "runtime.NumGoroutine") = false) (hb : fn.body.isSome = true)
    (p : Nat → Nat → Bool) (step : ∀ a b : Nat, a < U.length → b < U.length → ∀ W, Below w.heap.size w W → Calls Try.prog fv (#[.int .i64 a, .int .i64 b] ++ cs) W fun e w'' => e = .returned (.bool (p a b)) ∧ Below W.heap.size W w'') :
    Calls Try.prog 71 #[.pointer (some ⟨g, 0, none⟩), .func (.func fv) #[] cs] w fun e w' => e = .returned (.bool (allN U.length fun a => allN U.length fun b => p a b)) ∧ Below w.heap.size w w' := by
  refine (every_calls g U N v w hs fv fn cs hf hname hb p (fun _ W => Below w.heap.size w W) (fun _ W h => hV.below h) (fun _ W n h => pw_below_drewN h n) (Below.refl _ _) (fun a b ha hb' W hW => ?_)).mono ?_
  · refine (step a b ha hb' W hW).mono ?_
    rintro e w2 ⟨rfl, h2⟩
    exact ⟨rfl, below_step hW h2⟩
  · rintro e w2 ⟨rfl, i, h2, _⟩
    exact ⟨rfl, h2⟩
def filI (n : Nat) (p : Nat → Bool) : List Int := ((List.range n).filter p).map fun (a : Nat) => (a : Int)
theorem filI_zero (p : Nat → Bool) : filI 0 p = [] := rfl
theorem filI_succ (n : Nat) (p : Nat → Bool) : filI (n + 1) p = if p n = true then filI n p ++ [(n : Int)] else filI n p := by
  unfold filI
  rw [List.range_succ, List.filter_append, List.map_append]
  cases h : p n <;> simp [h]
theorem filI_length (n : Nat) (p : Nat → Bool) : (filI n p).length ≤ n := by
  unfold filI
  rw [List.length_map]
  exact Nat.le_trans (List.length_filter_le _ _) (by simp)
set_option maxHeartbeats 1000000 in
set_option maxRecDepth 100000 in
theorem all_calls (g : Nat) (U : List (List Int)) (N : List Int) (v : Adr) (w : World) (hs : U.length ≤ 12) (hV : View w g U N v) (fv : Nat) (fn : Func) (cs : Array Value) (hf : Try.prog.funcs[fv]? = some fn) (hname : (fn.name == "runtime.NumGoroutine") = false) (hb : fn.body.isSome = true)
    (p : Nat → Bool) (step : ∀ a : Nat, a < U.length → ∀ W, Below w.heap.size w W → Calls Try.prog fv (#[.int .i64 a] ++ cs) W fun e w'' => e = .returned (.bool (p a)) ∧ Below W.heap.size W w'') :
    Calls Try.prog 73 #[.pointer (some ⟨g, 0, none⟩), .func (.func fv) #[] cs] w fun e w' => ∃ v0, e = .returned v0 ∧ Kd.R (Kd.int .i64) 3 w' w.heap.size (fun _ => True) v0 (filI U.length p) ∧ Below w.heap.size w w' := by
  have hu70 := Try.underlying74
  have HF := Aside0.mk hf
  have HNM := Aside0.mk hname
  have HBD := Aside0.mk hb
  have HV := Aside0.mk hV
  have HST := Aside0.mk step
  have HB := Aside0.mk (Below.refl w.heap.size w)
  have hf0 := hV.f0
  clear hf hname hb hV step
  go_enter Try.func73, Try.ntmps73
  go_wp2_with (first | ((with_reducible refine gate_dst (N := 7) rfl ?_); refine Kd.R_lit (Kd.int .i64) _ 3 ?hg (N := 7) ?hd (xs := ([] : List Int)) (inner := []) (ok := fun _ => True) (okp := fun _ => True) ?hr ?hp (fun _ hk => hk) trivial (Below.refl _ _) (Nat.le_refl _) (by simp) ?_; (case hd => rfl); (case hg => rfl); (case hr => first | (go_simp; done) | (go_simp; rfl)); (case hp => exact (Reps.none _ _)); intro v496 w4 ho5 hb hg_ hnew_; clear hg_ hnew_; have HO := Aside0.mk ho5; have HB2 := Aside0.mk (below_step HB.out hb); have hf0' := (HV.out.below hb).f0; clear HB hf0 ho5 hb))
  go_loopg [5, 13] (U.length + 1) (fun kq v5 v13 W => ∃ i : Nat, v13 = .int .i64 i ∧ Aside0 (i + kq = U.length + 1) ∧ Aside0 (i ≤ U.length) ∧ Aside0 (Kd.R (Kd.int .i64) 3 W w.heap.size (fun _ => True) v5 (filI i p)) ∧ Aside0 (Below w.heap.size w W))
  case atStart => exact ⟨0, rfl, ⟨by omega⟩, ⟨by omega⟩, ⟨by (with_reducible repeat (first | apply Kd.R_alloc | apply Kd.R_drewN | apply Kd.R_drew)); exact HO.out⟩, ⟨by repeat (first | exact HB2.out | apply below_alloc | apply pw_below_drewN | apply below_drew1)⟩⟩
  case round =>
    clear hf0'
    obtain ⟨i, rfl, HK, HK2, HO1, HB1⟩ := hrel
    cases gk with
    | zero => exact absurd HK.out (by have := HK2.out; omega)
    | succ kn =>
    by_cases hlt : i < U.length
    · have hlt' : decide (i < U.length) = true := decide_eq_true hlt
      have HLT := Aside0.mk hlt
      clear hlt
      cases hp : p i with
      | true =>
        have HP := Aside0.mk hp
        clear hp
        go_wp2_with (first | (refine goesV_ (some 18) rfl rfl HF.out HNM.out HBD.out #[.int .i64 i] rfl rfl zq273 ?_; refine (HST.out i HLT.out _ ?sJ).mono ?_; (case sJ => exact zq260); rintro e w1 ⟨he, hj⟩; rw [HP.out] at he; subst he; refine ⟨_, rfl, ?_⟩; have HB3 := Aside0.mk (below_step zq260 hj); have HO3 := Aside0.mk (Kd.R_below zq307 hj); clear hj) | ((with_reducible refine gate_builtin (b := .append) (xs := #[.tmp 19, .tmp 21]) rfl ?_); at_builtin; refine Kd.R_append (Kd.int .i64) (w0 := w) w.heap.size rfl (.tmp 19) (.tmp 21) 24 3 (.int .i64 0) 8 rfl Try.underlying24 infoInt rfl (by decide) (by omega) u5 (filI i p) (i : Int) [.int .i64 i] (fun _ => True) (fun _ => False) rfl rfl ?aP (fun _ hk => hk.elim) ?aF ?aO ?aB ?aS ?aL ?_; (case aP => exact rfl); (case aB => exact zq294); (case aF => exact (fun _ _ => trivial)); (case aO => exact (by (with_reducible repeat (first | apply Kd.R_alloc | apply Kd.R_drewN | apply Kd.R_drew)); exact HO3.out)); (case aS => exact (below_size zq294)); (case aL => have := filI_length i p; have := HLT.out; omega); intro v5n w21 ho hb hg hat; have HB4 := Aside0.mk hb; have HO4 := Aside0.mk ho; clear ho hb hg hat))
        go_roundg kn
        case measure => omega
        case rel => exact ⟨i + 1, by first | go_num | (rw [wrap_small (by omega) (by have := HLT.out; omega)]; go_num), ⟨by have := HK.out; omega⟩, ⟨by have := HLT.out; omega⟩, ⟨by rw [filI_succ, if_pos HP.out]; (with_reducible repeat (first | apply Kd.R_alloc | apply Kd.R_drewN | apply Kd.R_drew)); exact HO4.out⟩, ⟨by repeat (first | exact HB4.out | apply below_alloc | apply pw_below_drewN | apply below_drew1)⟩⟩
      | false =>
        have HP := Aside0.mk hp
        clear hp
        go_wp2_with (refine goesV_ (some 18) rfl rfl HF.out HNM.out HBD.out #[.int .i64 i] rfl rfl zq273 ?_; refine (HST.out i HLT.out _ ?sJ).mono ?_; (case sJ => exact zq260); rintro e w1 ⟨he, hj⟩; rw [HP.out] at he; subst he; refine ⟨_, rfl, ?_⟩; have HB3 := Aside0.mk (below_step zq260 hj); have HO3 := Aside0.mk (Kd.R_below zq307 hj); clear hj)
        go_roundg kn
        case measure => omega
        case rel => exact ⟨i + 1, by first | go_num | (rw [wrap_small (by omega) (by have := HLT.out; omega)]; go_num), ⟨by have := HK.out; omega⟩, ⟨by have := HLT.out; omega⟩, ⟨by rw [filI_succ, if_neg (by rw [HP.out]; simp)]; (with_reducible repeat (first | apply Kd.R_alloc | apply Kd.R_drewN | apply Kd.R_drew)); exact HO3.out⟩, ⟨zq294⟩⟩
    · have hlt' : decide (i < U.length) = false := decide_eq_false hlt
      obtain rfl : i = U.length := by have := HK2.out; omega
      clear hlt
      go_wp2_with fail
      go_ret
      exact ⟨_, rfl, by (with_reducible repeat (first | apply Kd.R_alloc | apply Kd.R_drewN | apply Kd.R_drew)); exact HO1.out, by repeat (first | exact HB1.out | apply below_alloc | apply pw_below_drewN | apply below_drew1)⟩
end Go.Proofs.Ytcbjpdaogicibaa.Print
end
section
namespace Go.Proofs.Ytcbjpdaogicibaa.Print
open Go.RowKit Go.Proofs.YtcbjpdaogicibaaW.PrintWords Go.Proofs.YtcbjpdaogicibaaW.PrintLast Go.Proofs.YtcbjpdaogicibaaW.PrintMore
def impl_common.l0 : Nat → Int → Int → List Int → Int → Int → Option (Int)
 | 0, _, _, _, _, _ => none
 | k + 1, x1, x5, x12, x13, x14 => if x14 < x13 then (if 0 ≤ x14 then (if x14 < (x12.length : Int) then ((impl_has.f x1 x14).bind fun t531 => (if t531 = true then (impl_common.l0 k x1 (Go.bits .and .i64 x5 (rd x12 x14)) x12 x13 (wrap64 (x14 + 1))) else (impl_common.l0 k x1 x5 x12 x13 (wrap64 (x14 + 1))))) else (none)) else (none)) else (some x5)
def impl_common.f (k : Nat) (l0 : List Int) (a1 : Int) : Option (Int) := impl_common.l0 k a1 (wrap64 ((shl .i64 1 (l0.length : Int)) - 1)) l0 (l0.length : Int) 0
set_option maxHeartbeats 8000000 in
set_option maxRecDepth 100000 in
theorem impl_common.calls (k : Nat) (A0 : Option Addr) (c0 : Nat) (l0 : List Int) (a1 : Int) (r : Int) (w : World) (hr0 : Kd.C (Kd.int .i64) w A0 l0.length l0) (hc0 : l0.length ≤ c0) (h : impl_common.f k l0 a1 = some r) :
  Calls Try.prog 84 #[.slice A0 l0.length c0, .int .i64 a1] w fun e w' => e = .returned (.int .i64 r) ∧ Drawn0 w w' := by
 have b4:=zqm hr0;have b9:=zqm hc0;clear hr0 hc0;have H:(impl_common.l0 k a1 (wrap64 ((shl .i64 1 (l0.length:Int)) - 1)) l0 (l0.length:Int) 0)=some r:=h;clear h;obtain⟨a3,a6⟩: ∃j_:Int,(shl .i64 1 (l0.length:Int))=j_:=⟨_,rfl⟩;(replace H:(impl_common.l0 k a1 (wrap64 ((a3) - 1)) l0 (l0.length:Int) 0)=some r:=by first|(rw [a6] at H;exact H)|(simp only [a6] at H ⊢;exact H));have a7:(IntKind.i64.wrap (1*2 ^ min (l0.length:Int).toNat 64))=a3:=a6;have hji3z:(l0.length:Int)≤64→(IntKind.i64.wrap (1*2 ^ (l0.length:Int).toNat))=a3:=shl_small a6;have hji3p:(IntKind.i64.wrap (1*2 ^ min l0.length 64))=a3:=a7;have hji3q:(l0.length:Int)≤64→(IntKind.i64.wrap (1*2 ^ l0.length))=a3:=hji3z;(have hji3r:(IntKind.i64.wrap (2 ^ min l0.length 64))=a3:=by have h_:=hji3p;rw [Int.one_mul] at h_;exact h_);(have hji3s:(l0.length:Int)≤64→(IntKind.i64.wrap (2 ^ l0.length))=a3:=fun hle_=>by have h_:=hji3q hle_;rw [Int.one_mul] at h_;exact h_);(have hji3u:(IntKind.i64.wrap (2 ^ min (l0.length:Int).toNat 64))=a3:=by have h_:=a7;rw [Int.one_mul] at h_;exact h_);(have hji3v:(l0.length:Int)≤64→(IntKind.i64.wrap (2 ^ (l0.length:Int).toNat))=a3:=fun hle_=>by have h_:=hji3z hle_;rw [Int.one_mul] at h_;exact h_);have hji3y:(wrap64 (1*2 ^ min (l0.length:Int).toNat 64))=a3:=(i64_w _).symm.trans a7;have hji3x:(l0.length:Int)≤64→(wrap64 (1*2 ^ (l0.length:Int).toNat))=a3:=fun h_=>(i64_w _).symm.trans (hji3z h_);have H':=zqm H;clear H
 go_enter Try.func84,Try.ntmps84
 go_wp2
 go_loopg [5,14] k (fun kq v5 b6 w'=> ∃(a2:Int) (a0:Int),v5= .int .i64 a2∧b6= .int .i64 a0∧Aside0 (impl_common.l0 kq a1 a2 l0 (l0.length:Int) a0=some r)∧Aside0 (kq≤k)∧Drawn0 w w')
 case atStart=>exact⟨(wrap64 ((a3) - 1)),(0),zq328,(by first|rfl|(simp;done)|(simp [*];done)),H',⟨Nat.le_refl _⟩,zq17⟩
 case round=>
  clear H';obtain⟨a2,a0,rfl,rfl,HA,a9,⟨m1,rfl⟩⟩:=hrel
  cases gk with
  |zero=>exact absurd HA.out (by simp [impl_common.l0])
  |succ k1=>
   have H:=HA.out;clear HA;simp only [impl_common.l0] at H
   by_cases c4:a0<(l0.length:Int)
   ·rw [if_pos c4] at H;have b5:decide (a0<(l0.length:Int))=true:=decide_eq_true c4;clear c4
    by_cases c5:0≤a0
    ·rw [if_pos c5] at H;have b7:decide (0≤a0)=true:=decide_eq_true c5;clear c5
     by_cases c6:a0<(l0.length:Int)
     ·rw [if_pos c6] at H;have b8:decide (a0<(l0.length:Int))=true:=decide_eq_true c6;clear c6;replace H:=Option.bind_eq_some_iff.mp H;obtain⟨b1,b3,H⟩:=H;replace H:(if b1=true then(impl_common.l0 k1 a1 (Go.bits .and .i64 a2 (rd l0 a0)) l0 (l0.length:Int) (wrap64 (a0+1))) else(impl_common.l0 k1 a1 a2 l0 (l0.length:Int) (wrap64 (a0+1))))=some r:=H;have A7:=zqm b3;clear b3
      by_cases c8:b1=true
      ·subst c8;(have H1:(impl_common.l0 k1 a1 (Go.bits .and .i64 a2 (rd l0 a0)) l0 (l0.length:Int) (wrap64 (a0+1)))=some r:=by rw [if_pos rfl] at H;exact H);clear H;have H:=H1;clear H1;have H':=zqm H;clear H;have a4:0≤(a0:Int):=zqo;have a5:a0<(l0.length:Int):=zqo;obtain⟨b2,a8,b0⟩:=Kd.at_int b4.out a0 a4 a5
       cases a8
       replace a4:=eq_true a4;replace a5:=eq_true a5
       go_wp2_with (first|((with_reducible refine gate_callee (f:=88) rfl ?_);refine goesL_ (some 21) rfl rfl Try.func88 zqk rfl #[.int .i64 a1,.int .i64 a0] rfl zq1 ?_;(with_reducible refine(impl_has.calls a1 a0 true _ A7.out).mono ?_);rintro e w' ⟨rfl,⟨nd,rfl⟩⟩;refine⟨_,rfl,?_⟩))
       go_roundg k1
       (case measure=>have:=a9.out;omega);case rel=>exact⟨(Go.bits .and .i64 a2 (rd l0 a0)),(wrap64 (a0+1)),(by first|rfl|(simp;done)|(simp [*];done)),(by first|rfl|(simp;done)|(simp [*];done)),H',⟨by have:=a9.out;omega⟩,zq17⟩
      ·replace c8:=Bool.eq_false_iff.mpr c8;subst c8;(have H1:(impl_common.l0 k1 a1 a2 l0 (l0.length:Int) (wrap64 (a0+1)))=some r:=by rw [if_neg (show¬(false=true) by decide)] at H;exact H);clear H;have H:=H1;clear H1;have H':=zqm H;clear H;have a4:0≤(a0:Int):=zqo;have a5:a0<(l0.length:Int):=zqo;obtain⟨b2,a8,b0⟩:=Kd.at_int b4.out a0 a4 a5
       cases a8
       replace a4:=eq_true a4;replace a5:=eq_true a5
       go_wp2_with (first|((with_reducible refine gate_callee (f:=88) rfl ?_);refine goesL_ (some 21) rfl rfl Try.func88 zqk rfl #[.int .i64 a1,.int .i64 a0] rfl zq1 ?_;(with_reducible refine(impl_has.calls a1 a0 false _ A7.out).mono ?_);rintro e w' ⟨rfl,⟨nd,rfl⟩⟩;refine⟨_,rfl,?_⟩))
       go_roundg k1
       (case measure=>have:=a9.out;omega);case rel=>exact⟨(a2),(wrap64 (a0+1)),(by first|rfl|(simp;done)|(simp [*];done)),(by first|rfl|(simp;done)|(simp [*];done)),H',⟨by have:=a9.out;omega⟩,zq17⟩
     ·rw [if_neg c6] at H;exact absurd H (by simp)
    ·rw [if_neg c5] at H;exact absurd H (by simp)
   ·rw [if_neg c4] at H;have b5:decide (a0<(l0.length:Int))=false:=decide_eq_false c4;clear c4;obtain rfl:=Option.some.inj H
    go_wp2
    go_ret
    exact⟨zq328,zq17⟩
end Go.Proofs.Ytcbjpdaogicibaa.Print
end
section
namespace Go.Proofs.Ytcbjpdaogicibaa.Print
open Go.RowKit Go.Proofs.YtcbjpdaogicibaaW.PrintWords Go.Proofs.YtcbjpdaogicibaaW.PrintLast Go.Proofs.YtcbjpdaogicibaaW.PrintMore
open Oml
def agA (U : List (List Int)) (N : List Int) (a : Nat) : Nat := setB U.length fun b => bothB U N a b
def agF (U : List (List Int)) (N : List Int) : List Int := (List.range U.length).map fun (a : Nat) => ((agA U N a : Nat) : Int)
theorem agF_length (U : List (List Int)) (N : List Int) : (agF U N).length = U.length := by simp [agF]
theorem agL_at (U : List (List Int)) (N : List Int) (s a : Nat) (h : a < U.length) : at1 (agL U N s) a = ((agN U N s a : Nat) : Int) := by simp [agL, at1, h]
theorem agF_at (U : List (List Int)) (N : List Int) (a : Nat) (h : a < U.length) : at1 (agF U N) a = ((agA U N a : Nat) : Int) := by simp [agF, at1, h]
theorem agL_zero (U : List (List Int)) (N : List Int) : agL U N 0 = List.replicate U.length 0 := by
  refine List.ext_getElem (by simp [agL]) fun i h1 h2 => ?_
  simp [agL, agN, setB_none]
theorem pair_lt {n a b : Nat} (ha : a < n) (hb : b < n) : a * n + b < n * n := by
  have : (a + 1) * n ≤ n * n := Nat.mul_le_mul_right _ ha
  rw [Nat.succ_mul] at this; omega
theorem agL_all (U : List (List Int)) (N : List Int) : agL U N (U.length * U.length) = agF U N := by
  unfold agL agF
  refine List.map_congr_left fun a ha => ?_
  congr 1
  unfold agN agA
  refine setB_congr fun b hb => ?_
  rw [decide_eq_true (pair_lt (by simpa using ha) hb), Bool.true_and]
theorem pair_inj {n a b c d : Nat} (hb : b < n) (hd : d < n) (h : a * n + b = c * n + d) : a = c ∧ b = d := by
  have h1:(a*n+b) / n=a:=by rw [Nat.add_comm,Nat.mul_comm,Nat.add_mul_div_left _ _ (by omega),Nat.div_eq_of_lt hb];omega
  have h2:(c*n+d) / n=c:=by rw [Nat.add_comm,Nat.mul_comm,Nat.add_mul_div_left _ _ (by omega),Nat.div_eq_of_lt hd];omega
  have h3:a=c:=by rw [← h1,h,h2]
  subst h3
  exact⟨rfl,by omega⟩
theorem agN_step (U : List (List Int)) (N : List Int) {a b c : Nat} (hb : b < U.length) : agN U N (a * U.length + b + 1) c = if c = a ∧ bothB U N a b = true then agN U N (a * U.length + b) c ||| 2 ^ b else agN U N (a * U.length + b) c := by
  unfold agN
  split
  · rename_i h
    obtain⟨rfl,h⟩:=h
    rw [setB_one hb,setB_or]
    refine setB_congr fun d hd=>?_
    by_cases e:d=b
    · subst e;simp [h]
    · rw [show (d == b) = false by simpa using e, Bool.or_false]
      congr 1
      rw [decide_eq_decide];omega
  · rename_i h
    refine setB_congr fun d hd=>?_
    by_cases e:c*U.length+d=a*U.length+b
    · obtain ⟨rfl, rfl⟩ := pair_inj hd hb e
      have : bothB U N c d = false := by
        cases h2:bothB U N c d with
        |false=>rfl
        |true=>exact absurd ⟨rfl,h2⟩ h
      rw [this];simp
    · congr 1
      rw [decide_eq_decide];omega
theorem agL_step (U : List (List Int)) (N : List Int) {a b : Nat} (ha : a < U.length) (hb : b < U.length) :
    agL U N (a*U.length+b+1)=if bothB U N a b=true then(agL U N (a*U.length+b)).set a (((agN U N (a*U.length+b) a|||2 ^ b:Nat)):Int) else agL U N (a*U.length+b):=by
  cases hB:bothB U N a b with
  | false =>
    rw [if_neg (by simp)]
    refine List.ext_getElem (by simp [agL]) fun i h1 h2=>?_
    simp [agL,agN_step U N hb,hB]
  | true =>
    rw [if_pos rfl]
    refine List.ext_getElem (by simp [agL]) fun i h1 h2=>?_
    by_cases e:i=a
    · subst e;simp [agL,agN_step U N hb,hB]
    · simp [agL,agN_step U N hb,List.getElem_set,e,show¬(a=i) from fun h=>e h.symm]
def comS (U : List (List Int)) (N : List Int) (s : Nat) : Nat := setB U.length fun b => allN U.length fun a => !(s.testBit a) || bothB U N a b
def comN (U : List (List Int)) (N : List Int) (s i : Nat) : Nat := setB U.length fun b => allN i fun a => !(s.testBit a) || bothB U N a b
theorem allN_succ (n : Nat) (p : Nat → Bool) : allN (n + 1) p = (allN n p && p n) := by simp [allN, List.range_succ]
theorem comN_succ (U : List (List Int)) (N : List Int) (s i : Nat) : comN U N s (i + 1) = if s.testBit i = true then comN U N s i &&& agA U N i else comN U N s i := by
  unfold comN agA
  cases hb:s.testBit i with
  |true=>rw [if_pos rfl,setB_and];exact setB_congr fun b _=>by rw [allN_succ,hb];simp
  |false=>rw [if_neg (by simp)];exact setB_congr fun b _=>by rw [allN_succ,hb];simp
theorem comN_small {U : List (List Int)} (N : List Int) (hn : U.length ≤ 12) (s i : Nat) : comN U N s i < 1099511627776 := setB_small (by omega) _
theorem agA_small {U : List (List Int)} (N : List Int) (hn : U.length ≤ 12) (i : Nat) : agA U N i < 1099511627776 := setB_small (by omega) _
theorem com_start {U : List (List Int)} (N : List Int) (hn : U.length ≤ 12) (s : Nat) : wrap64 (((2 ^ U.length : Nat) : Int) - 1) = ((comN U N s 0 : Nat) : Int) := by
  have h1:=two_pow_le (show U.length≤40 by omega)
  have h1':=Nat.one_le_two_pow (n:=U.length)
  have h3:comN U N s 0=2 ^ U.length - 1:=by rw [setB_all];exact setB_congr fun i _=>rfl
  rw [h3]
  generalize 2 ^ U.length=x at h1 h1' ⊢
  unfold wrap64;omega
theorem impl_common.ev {U : List (List Int)} (N : List Int) (hn : U.length ≤ 12) {s : Nat} (hs : s < 4611686018427387904) : Ev (fun k => impl_common.f k (agF U N) (s : Int)) ((comS U N s : Nat) : Int) := by
  unfold impl_common.f
  rw [agF_length,shl_nat (by omega)]
  rw [com_start N hn s]
  refine Ev.loop (g:=fun k x i=>impl_common.l0 k (s:Int) x (agF U N) (U.length:Int) i) U.length (fun i x=>x=((comN U N s i:Nat):Int)) (by omega) (fun x h=>?_) (fun i x hi h=>?_) _ rfl
  · subst h
    refine Ev.succ ?_
    simp only [impl_common.l0]
    repeat(first|((with_reducible refine Ev.ite_pos ?_ ?_);(first|assumption|(focus omega)|(focus (simp;done))))|((with_reducible refine Ev.ite_neg ?_ ?_);(first|assumption|(focus omega)|(focus (simp;done)))))
    exact Ev.now _
  · subst h
    refine⟨_,rfl,fun K=>Ev.succ ?_⟩
    simp only [impl_common.l0,agF_length,rd_nat,agF_at U N i hi]
    repeat(first|((with_reducible refine Ev.ite_pos ?_ ?_);(first|assumption|(focus omega)|(focus (simp;done))))|((with_reducible refine Ev.ite_neg ?_ ?_);(first|assumption|(focus omega)|(focus (simp;done)))))
    refine Ev.pbind (has_nat s hs (by omega)) ?_
    rw [comN_succ] at K
    cases hb:s.testBit i with
    | true =>
      rw [hb,if_pos rfl] at K
      repeat(first|((with_reducible refine Ev.ite_pos ?_ ?_);(first|assumption|(focus omega)|(focus (simp;done))))|((with_reducible refine Ev.ite_neg ?_ ?_);(first|assumption|(focus omega)|(focus (simp;done)))))
      rw [band_nat (comN U N s i) (agA U N i) (by have:=comN_small N hn s i;omega) (by have:=agA_small N hn i;omega)]
      exact K
    | false =>
      rw [hb,if_neg (by simp)] at K
      repeat(first|((with_reducible refine Ev.ite_pos ?_ ?_);(first|assumption|(focus omega)|(focus (simp;done))))|((with_reducible refine Ev.ite_neg ?_ ?_);(first|assumption|(focus omega)|(focus (simp;done)))))
      exact K
theorem com_calls {U : List (List Int)} (N : List Int) (hn : U.length ≤ 12) (s : Nat) (hs : s < 4611686018427387904) (A : Option Addr) (c : Nat) (w : World) (hr : Kd.C (Kd.int .i64) w A U.length (agF U N)) (hc : U.length ≤ c) :
    Calls Try.prog 84 #[.slice A U.length c,.int .i64 (s:Int)] w fun e w'=>e= .returned (.int .i64 ((comS U N s:Nat):Int))∧Drawn0 w w':=by
  obtain⟨K,hK⟩:=(impl_common.ev N hn hs).rounds
  have:=impl_common.calls K A c (agF U N) (s:Int) _ w (by rw [agF_length];exact hr) (by rw [agF_length];exact hc) hK
  rwa [agF_length] at this
def alg_agreeing_1.T2 : Bool × List (List Nat × List Nat) := (true, [([], []), ([], []), ([0, 1], [0, 1]), ([2], [2]), ([], []), ([4], [4]), ([3, 5], [3, 5]), ([0, 1, 0, 1, 2, 3, 4, 5, 6], [0, 1]), ([7, 6, 0, 1, 2, 3, 4, 5, 6], [6, 7])])
def alg_agreeing_1.B2 : List Nat := [0, 0, 3, 7, 0, 16, 63, 127, 255]
theorem alg_agreeing_1.tab2 : rtab .any (opsOf Try.f137 2) = alg_agreeing_1.T2 := by kernel_rfl
theorem alg_agreeing_1.bits2 : waitsOk alg_agreeing_1.T2.2 alg_agreeing_1.B2 = true := by kernel_rfl
set_option maxHeartbeats 1000000 in
set_option maxRecDepth 100000 in
theorem agr_c1 (g : Nat) (U : List (List Int)) (N : List Int) (v : Adr) (w1 w : World) (L : Logic U N) (hV : View w1 g U N v) (gG gO gr c a b : Nat) (ha : a < U.length) (hb : b < U.length) (hJ : AgJ w1 gG g gO gr c U N (a * U.length + b) w) :
    Calls Try.prog 137 #[.int .i64 a,.int .i64 b,.pointer (some ⟨gG,0,none⟩),.pointer (some ⟨gO,0,none⟩)] w fun e w'=>e= .returned (.bool true)∧AgJ w1 gG g gO gr c U N (a*U.length+b+1) w':=by
  have HV:=Aside0.mk hV
  have HLg:=Aside0.mk L
  have HSM:=Aside0.mk L.small
  have HA:=Aside0.mk ha
  have HB:=Aside0.mk hb
  have HJ:=Aside0.mk hJ
  have HIA:=Aside0.mk (show In U (a:Int) from ⟨by omega,by omega⟩)
  have HIB:=Aside0.mk (show In U (b:Int) from ⟨by omega,by omega⟩)
  have HST:=Aside0.mk (agL_step U N ha hb)
  have x0:w.cell? ⟨gG,0,none⟩=some (.pointer (some ⟨g,0,none⟩)):=(blk_cell hJ.hG 0).trans rfl
  cases hB:bothB U N a b with
  | false =>
    have HBB:=Aside0.mk hB
    have HEQ:=Aside0.mk (show agL U N (a*U.length+b+1)=agL U N (a*U.length+b) by rw [HST.out,if_neg (by rw [hB];simp)])
    clear hV L ha hb hJ hB HST
    go_enter Try.func137,Try.ntmps137
    go_wp2_with (go_at_call 138;(with_reducible refine(alg_both.reads g U N v a b _ HLg.out ?s1 HIA.out HIB.out).mono ?_);(case s1=>exact HV.out.below HJ.out.hb);rintro e w' ⟨he,⟨⟨nd,rfl⟩⟩⟩;rw [HBB.out] at he;subst he;have HJ2:=Aside0.mk (HJ.out.drewN nd);clear HJ)
    go_ret
    have h:=HJ2.out
    exact⟨rfl,h.hb,h.hG,h.hO,by rw [HEQ.out];exact h.hR,h.hg,h.ho⟩
  | true =>
    have HBB:=Aside0.mk hB
    obtain⟨sv,hsv⟩: ∃sv:Int,sv=((agN U N (a*U.length+b) a:Nat):Int):=⟨_,rfl⟩
    obtain⟨tv,htv⟩: ∃tv:Int,tv=((agN U N (a*U.length+b) a|||2 ^ b:Nat):Int):=⟨_,rfl⟩
    obtain⟨pv,hpv⟩: ∃pv:Int,wrap64 (2 ^ min b 64)=pv:=⟨_,rfl⟩
    have e2_ : Go.bits .or .i64 sv pv = tv := by
      have h1:=setB_small (show U.length≤40 by have:=L.small;omega) (fun d=>decide (a*U.length+d<a*U.length+b) && bothB U N a d)
      have h2:=two_pow_le (show b≤40 by have:=L.small;omega)
      rw [hsv,htv,← hpv,Nat.min_eq_left (show b≤64 by have:=L.small;omega),← i64_w,wshl_nat (by have:=L.small;omega)]
      exact bor_nat _ _ (by unfold agN;omega) (by omega)
    have e1_:=hpv
    have HSET:=Aside0.mk (show agL U N (a*U.length+b+1)=(agL U N (a*U.length+b)).set a tv by rw [HST.out,if_pos hB,htv])
    have HCELL := Aside0.mk (show ∀ W, AgJ w1 gG g gO gr c U N (a * U.length + b) W → W.cell? ⟨gr, a, none⟩ = some (.int .i64 sv) from fun W h => by
      have h2:=(Kd.R_celln 0 h.hR (a:Int) (by omega) (by omega)).1
      rw [Int.toNat_natCast] at h2
      rw [h2,hsv,← agL_at U N _ a ha]
      rfl)
    have HFREE := Aside0.mk (show ∀ W, AgJ w1 gG g gO gr c U N (a * U.length + b) W → W.frozen? ⟨gr, a, none⟩ = false from fun W h => by
      have h2:=(Kd.R_celln 0 h.hR (a:Int) (by omega) (by omega)).2
      rwa [Int.toNat_natCast] at h2)
    have HNE1:=Aside0.mk (show∀W,AgJ w1 gG g gO gr c U N (a*U.length+b) W→some gG≠some gr from fun W h=>Kd.R_ne h.hR h.hG (by decide))
    have HNE2:=Aside0.mk (show∀W,AgJ w1 gG g gO gr c U N (a*U.length+b) W→some gO≠some gr from fun W h=>Kd.R_ne h.hR h.hO (by decide))
    have p1:(a<U.length)=True:=eq_true ha
    have p2:(0≤(a:Int))=True:=eq_true (by omega)
    have p3:((a:Int)<(U.length:Int))=True:=eq_true (by omega)
    clear hV L ha hb hJ hB HST hsv htv hpv
    go_enter Try.func137,Try.ntmps137
    go_wp2_with (go_at_call 138;(with_reducible refine(alg_both.reads g U N v a b _ HLg.out ?s1 HIA.out HIB.out).mono ?_);(case s1=>exact HV.out.below HJ.out.hb);rintro e w' ⟨he,⟨⟨nd,rfl⟩⟩⟩;rw [HBB.out] at he;subst he;have HJ2:=Aside0.mk (HJ.out.drewN nd);clear HJ x0)
    refine start_ (n:=9) (S:=(fun w'=>w'.cell? ⟨gO,0,none⟩=some (.slice (some ⟨gr,0,none⟩) U.length c)∧w'.cell? ⟨gr,a,none⟩=some (.int .i64 sv))) (ds:= [8]) (zqb 9 0) (by kernel_rfl) rfl rfl ⟨(blk_cell (HJ2.out.below (below_drew1 (Below.refl _ _))).hO 0).trans rfl,HCELL.out _ (HJ2.out.below (below_drew1 (Below.refl _ _)))⟩ (fun hHeld=>?_)
    refine with_tabW alg_agreeing_1.tab2 alg_agreeing_1.bits2 (fun HT_ HW_=>?_)
    have HJ3:=Aside0.mk (HJ2.out.below (below_drew1 (Below.refl _ _)))
    clear HJ2
    generalize (World.drewN w nd).drew=wd at HJ3 hHeld ⊢
    refine take_ (i:=0) (N:=some 11) (v:=?_) (a':=?_) (zqb 9 1) rfl rfl (take_ofW HT_.out HW_.out (by kernel_rfl)) (fun _ _ _ h=>h) (Or.inl ⟨by rfl,?_⟩) hHeld ?_ ?_
    rotate_left
    · rintro w' ⟨s0,s1⟩;go_simp;with_reducible rfl
    rotate_left
    · simp only [Act.put,List.setIfInBounds_toArray,List.set_cons_zero,List.set_cons_succ,i64_w,i32_w];rfl
    refine pure_ (i:=1) (N:=some 12) (v:=?_) (a':=?_) (zqb 9 3) rfl rfl (any_of HT_.out (by kernel_rfl)) (fun _ _ _ h=>h) (Or.inl ⟨by rfl,?_⟩) ?_ ?_
    rotate_left
    · intro w';go_simp;with_reducible rfl
    rotate_left
    · simp only [Act.put,List.setIfInBounds_toArray,List.set_cons_zero,List.set_cons_succ,i64_w,i32_w];rfl
    refine pure_ (i:=2) (N:=some 13) (v:=?_) (a':=?_) (zqb 9 7) rfl rfl (any_of HT_.out (by kernel_rfl)) (fun _ _ _ h=>h) (Or.inl ⟨by rfl,?_⟩) ?_ ?_
    rotate_left
    · intro w';go_simp;with_reducible rfl
    rotate_left
    · simp only [Act.put,List.setIfInBounds_toArray,List.set_cons_zero,List.set_cons_succ,i64_w,i32_w];rfl
    refine take_ (i:=3) (N:=some 14) (v:=?_) (a':=?_) (zqb 9 15) rfl rfl (take_ofW HT_.out HW_.out (by kernel_rfl)) (fun _ _ _ h=>h) (Or.inl ⟨by rfl,?_⟩) hHeld ?_ ?_
    rotate_left
    · rintro w' ⟨s0,s1⟩;go_simp;with_reducible rfl
    rotate_left
    · simp only [Act.put,List.setIfInBounds_toArray,List.set_cons_zero,List.set_cons_succ,i64_w,i32_w];rfl
    refine pure_ (i:=4) (N:=some 15) (v:=?_) (a':=?_) (zqb 9 31) rfl rfl (any_of HT_.out (by kernel_rfl)) (fun _ _ _ h=>h) (Or.inl ⟨by rfl,?_⟩) ?_ ?_
    rotate_left
    · intro w';go_simp;with_reducible rfl
    rotate_left
    · simp only [Act.put,List.setIfInBounds_toArray,List.set_cons_zero,List.set_cons_succ,i64_w,i32_w];rfl
    refine pure_ (i:=5) (N:=some 16) (v:=?_) (a':=?_) (zqb 9 63) rfl rfl (any_of HT_.out (by kernel_rfl)) (fun _ _ _ h=>h) (Or.inl ⟨by rfl,?_⟩) ?_ ?_
    rotate_left
    · intro w';go_simp;with_reducible rfl
    rotate_left
    · simp only [Act.put,List.setIfInBounds_toArray,List.set_cons_zero,List.set_cons_succ,i64_w,i32_w];rfl
    refine pure_ (i:=6) (N:=some 17) (v:=?_) (a':=?_) (zqb 9 127) rfl rfl (any_of HT_.out (by kernel_rfl)) (fun _ _ _ h=>h) (Or.inl ⟨by rfl,?_⟩) ?_ ?_
    rotate_left
    · intro w';go_simp;with_reducible rfl
    rotate_left
    · simp only [Act.put,List.setIfInBounds_toArray,List.set_cons_zero,List.set_cons_succ,i64_w,i32_w];rfl
    refine pure_ (i:=7) (N:=some 18) (v:=?_) (a':=?_) (zqb 9 255) rfl rfl (any_of HT_.out (by kernel_rfl)) (fun _ _ _ h=>h) (Or.inl ⟨by rfl,?_⟩) ?_ ?_
    rotate_left
    · intro w';go_simp;with_reducible rfl
    rotate_left
    · simp only [Act.put,List.setIfInBounds_toArray,List.set_cons_zero,List.set_cons_succ,i64_w,i32_w];rfl
    have hs_:=HCELL.out _ HJ3.out
    have hf_:=HFREE.out _ HJ3.out
    refine last_ (i:=8) (N:=none) (zqb 9 511) rfl rfl (one_of HT_.out (by kernel_rfl)) (by decide) (fun K hK=>?_)
    refine skip_ (w1:=wd.setCell ⟨gr,a,none⟩ (.int .i64 tv)) (by rfl) rfl ?_ ?_
    · go_simp
    refine hK.out _ _ ?_
    clear hK K
    have HP:=Kd.R_putg HJ3.out.hR (a:Int) tv
    rw [Int.toNat_natCast] at HP
    have HJ7:=Aside0.mk (show AgJ w1 gG g gO gr c U N (a*U.length+b+1) (wd.setCell ⟨gr,a,none⟩ (.int .i64 tv)) from ⟨below_set HJ3.out.hb (Kd.R_base HJ3.out.hR gr rfl),blk_grown HJ3.out.hG HP.2 (HNE1.out _ HJ3.out),blk_grown HJ3.out.hO HP.2 (HNE2.out _ HJ3.out),by rw [HSET.out];exact HP.1,HJ3.out.hg,HJ3.out.ho⟩)
    generalize wd.setCell ⟨gr,a,none⟩ (.int .i64 tv)=w7 at HJ7 ⊢
    clear hs_ hf_ HJ3 HP
    refine done_ (done_of HT_.out (by kernel_rfl)) ?_
    go_wp2
    go_ret
    exact⟨rfl,by repeat(first|exact HJ7.out|apply AgJ.drewN)⟩
set_option maxHeartbeats 1000000 in
set_option maxRecDepth 100000 in
theorem agreeing_calls (g : Nat) (U : List (List Int)) (N : List Int) (v : Adr) (w : World) (L : Logic U N) (hV : View w g U N v) :
    Calls Try.prog 83 #[.pointer (some ⟨g,0,none⟩)] w fun e w'=> ∃A c,e= .returned (.slice A U.length c)∧Kd.R (Kd.int .i64) 3 w' w.heap.size (fun _=>True) (.slice A U.length c) (agF U N)∧Below w.heap.size w w':=by
  have hu70:=Try.underlying74
  have HV:=Aside0.mk hV
  have HLg:=Aside0.mk L
  have HSM:=Aside0.mk L.small
  have b0_:decide (0≤(U.length:Int))=true:=decide_eq_true (by omega)
  clear hV L
  go_enter Try.func83,Try.ntmps83
  go_wp2_with (first|((with_reducible refine gate_dst (N:=1) rfl ?_);refine box_event ?hg (N:=1) ?hd (cs:= #[.pointer (some ⟨g,0,none⟩)]) (t:=67) ?hr ?_;(case hd=>rfl);(case hg=>rfl);(case hr=>first|(go_simp;done)|(go_simp;rfl));intro gG hg_ w1 hbox hb;have HX:=Aside0.mk hbox;have HGG:=Aside0.mk hg_;have HB1:=Aside0.mk hb;have x0:w1.cell? ⟨gG,0,none⟩=some (.pointer (some ⟨g,0,none⟩)):=(blk_cell hbox 0).trans rfl;have hf0:=(HV.out.below hb).f0;clear hbox hb hg_)|((with_reducible refine gate_dst (N:=9) rfl ?_);refine Kd.R_make (Kd.int .i64) _ 3 rfl (N:=9) rfl 24 _ _ rfl (U.length:Int) rfl rfl Try.underlying24 (.int .i64 0) 8 infoInt rfl (by decide) (by omega) 0 (ok:=fun _=>True) (okp:=fun _=>True) rfl (fun _ hk=>hk) trivial (by omega) (by rw [Int.toNat_natCast];have:=HSM.out;omega) (Below.refl _ _) (Nat.le_refl _) ?_;intro vr w2 ho hb hg_ hat_;rw [Int.toNat_natCast] at ho;obtain⟨b_,e_,hl_⟩:=hat_;have hs_:=Kd.R_slice ho;rw [List.length_replicate] at hs_;obtain⟨Ar,cr,rfl⟩:=hs_;obtain⟨gr,hAr⟩: ∃gr,Ar=some ⟨gr,0,none⟩:=(by obtain⟨gr,cap,e2,_⟩:=Kd.R_form ho (by rw [List.length_replicate];exact HLg.out.pos);injection e2 with e3;exact⟨gr,e3⟩);subst hAr;have HO2:=Aside0.mk (Kd.R_lower (Kd.R_mono (Kd.R_tight rfl ho) (fun k hk=>(Option.some.inj hk:k=gr))) (below_size HB1.out));have HB2:=Aside0.mk (below_step HB1.out hb);have HX2:=Aside0.mk (blk_below HX.out hb);have x0':(w2.alloc (.cells #[.slice (some ⟨gr,0,none⟩) U.length cr] 24)).cell? ⟨gG,0,none⟩=some (.pointer (some ⟨g,0,none⟩)):=(blk_cell (blk_alloc HX2.out _) 0).trans rfl;clear ho hb hg_ x0 hf0 e_ hl_)|(go_at_call 71;(with_reducible refine(every_calls g U N v _ HSM.out 137 _ #[.pointer (some ⟨gG,0,none⟩),.pointer (some ⟨w2.heap.size,0,none⟩)] Try.func137 (by kernel_rfl) rfl (fun _ _=>true) (AgJ w gG g w2.heap.size gr cr U N) ?tV ?tD ?t0 ?tS).mono ?_);(case tV=>exact fun i W h=>HV.out.below h.hb);(case tD=>exact fun i W n h=>h.drewN n);(case t0=>exact⟨below_alloc HB2.out _,blk_alloc HX2.out _,(MapKept.heap_alloc w2 _).1,(by rw [agL_zero];exact Kd.R_alloc HO2.out _),(by rw [HGG.out];exact Nat.le_refl _),below_size HB2.out⟩);(case tS=>exact fun a b ha hb W h=>agr_c1 g U N v w W HLg.out HV.out gG w2.heap.size gr cr a b ha hb h);rintro e w3 ⟨rfl,i,hj,hi⟩;have hi2:=hi (allN_iff.2 fun _ _=>allN_iff.2 fun _ _=>rfl);subst hi2;have HJ:=Aside0.mk hj;have y0:w3.cell? ⟨w2.heap.size,0,none⟩=some (.slice (some ⟨gr,0,none⟩) U.length cr):=(blk_cell hj.hO 0).trans rfl;clear hj hi x0'))
  go_ret
  have h:=HJ.out
  have hR:=h.hR
  rw [agL_all] at hR
  exact⟨_,_,rfl,Kd.R_mono hR (fun _ _=>trivial),h.hb⟩
def blkP (U : List (List Int)) (N : List Int) (s : Nat) : Bool := decide (1 ≤ s) && (comS U N s == s)
def blkN (U : List (List Int)) (N : List Int) : List Nat := (List.range (2 ^ U.length)).filter (blkP U N)
def blkL (U : List (List Int)) (N : List Int) : List Int := filI (2 ^ U.length) (blkP U N)
theorem blkL_eq (U : List (List Int)) (N : List Int) : blkL U N = (blkN U N).map fun (s : Nat) => (s : Int) := rfl
theorem filI_one (U : List (List Int)) (N : List Int) : filI 1 (blkP U N) = [] := by
  rw [filI_succ, filI_zero, if_neg (by simp [blkP])]
def impl_BlocksOf.f (l0_0 : List (List Int)) (l0_1 : List Int) : Option (List Int) := some (if logicB l0_0 l0_1 = true then blkL l0_0 l0_1 else [])
set_option maxHeartbeats 4000000 in
set_option maxRecDepth 100000 in
theorem impl_BlocksOf.calls (A0_0 : Option Addr) (c0_0 : Nat) (l0_0 : List (List Int)) (A0_1 : Option Addr) (c0_1 : Nat) (l0_1 : List Int) (r : List Int) (w : World) (hr0_0 : Kd.C (Kd.slice 3 (Kd.int .i64)) w A0_0 l0_0.length l0_0) (hc0_0 : l0_0.length ≤ c0_0) (hr0_1 : Kd.C (Kd.int .i64) w A0_1 l0_1.length l0_1) (hc0_1 : l0_1.length ≤ c0_1) (h : impl_BlocksOf.f l0_0 l0_1 = some r) :
    Calls Try.prog 20 #[.agg #[.slice A0_0 l0_0.length c0_0,.slice A0_1 l0_1.length c0_1]] w fun e w'=> ∃v0_:Value,e= .returned (v0_)∧Kd.R (Kd.int .i64) 3 w' w.heap.size (fun _=>True) v0_ r∧Below w.heap.size w w':=by
  obtain⟨k,hF⟩:=told_facts l0_0
  have hu30:=Try.underlying26
  have hu70:=Try.underlying74
  have HF:=Aside0.mk hF
  have HR0:=Aside0.mk hr0_0
  have HC0:=Aside0.mk hc0_0
  have HR1:=Aside0.mk hr0_1
  have HC1:=Aside0.mk hc0_1
  simp only [impl_BlocksOf.f,Option.some.injEq] at h
  clear hr0_0 hc0_0 hr0_1 hc0_1 hF
  cases hL:logicB l0_0 l0_1 with
  | false =>
    rw [hL] at h
    have hr_: []=r:=by simpa using h
    subst hr_
    have HLB:=Aside0.mk hL
    clear h hL
    go_enter Try.func20,Try.ntmps20
    go_wp2_with (first|((with_reducible refine gate_dst (N:=1) rfl ?_);refine box_event ?hg (N:=1) ?hd (cs:= #[.slice A0_0 l0_0.length c0_0,.slice A0_1 l0_1.length c0_1]) (t:=26) ?hr ?_;(case hd=>rfl);(case hg=>rfl);(case hr=>first|(go_simp;done)|(go_simp;rfl));intro gb hg_ w1 hbox hb;have HB:=Aside0.mk hb;have hx0:w1.cell? ⟨gb,0,none⟩=some (.slice A0_0 l0_0.length c0_0):=(blk_cell hbox 0).trans rfl;have hx1:w1.cell? ⟨gb,1,none⟩=some (.slice A0_1 l0_1.length c0_1):=(blk_cell hbox 1).trans rfl;have HX:=Aside0.mk hbox;clear hbox hb hg_)|(go_at_call 70;(with_reducible refine(told_n k _ _ l0_0 _ _ l0_1 _ ?s1 ?s2 ?s3 ?s4 HF.out HLB.out).mono ?_);(case s1=>exact Kd.C_below HR0.out HB.out);(case s2=>exact HC0.out);(case s3=>exact Kd.C_below HR1.out HB.out);(case s4=>exact HC1.out);rintro e w2 ⟨rfl,hb⟩;have HB2:=Aside0.mk (below_step HB.out hb);clear hb hx0 hx1 HX HB))
    go_ret
    exact⟨_,rfl,Kd.R_nil _ _ _ _ _,zq233⟩
  | true =>
    rw [hL] at h
    have hr_:blkL l0_0 l0_1=r:=by simpa using h
    subst hr_
    have HLB:=Aside0.mk hL
    have HLg:=Aside0.mk (logicB_iff.1 hL)
    have HSM:=Aside0.mk (logicB_iff.1 hL).small
    obtain⟨M,hM⟩: ∃M:Nat,M=2 ^ l0_0.length:=⟨_,rfl⟩
    obtain⟨mv,hmv⟩: ∃mv:Int,mv=(M:Int):=⟨_,rfl⟩
    have hM1:1≤M:=by rw [hM];exact Nat.one_le_two_pow
    have hM2:M≤4096:=by rw [hM];exact Nat.pow_le_pow_right (by omega) (show l0_0.length≤12 from HSM.out)
    have e1_:wrap64 (2 ^ min l0_0.length 64)=mv:=by rw [Nat.min_eq_left (show l0_0.length≤64 by have:=HSM.out;omega),← i64_w,wshl_nat (by have:=HSM.out;omega),hmv,hM]
    have e2_:IntKind.i64.wrap (2 ^ min l0_0.length 64)=mv:=by rw [i64_w];exact e1_
    have HM:=Aside0.mk hM
    have HMV:=Aside0.mk hmv
    have HM1:=Aside0.mk hM1
    have HM2:=Aside0.mk hM2
    clear h hL hM hmv hM1 hM2
    go_enter Try.func20,Try.ntmps20
    go_wp2_with (first|((with_reducible refine gate_dst (N:=1) rfl ?_);refine box_event ?hg (N:=1) ?hd (cs:= #[.slice A0_0 l0_0.length c0_0,.slice A0_1 l0_1.length c0_1]) (t:=26) ?hr ?_;(case hd=>rfl);(case hg=>rfl);(case hr=>first|(go_simp;done)|(go_simp;rfl));intro gb hg_ w1 hbox hb;have HB:=Aside0.mk hb;have hx0:w1.cell? ⟨gb,0,none⟩=some (.slice A0_0 l0_0.length c0_0):=(blk_cell hbox 0).trans rfl;have hx1:w1.cell? ⟨gb,1,none⟩=some (.slice A0_1 l0_1.length c0_1):=(blk_cell hbox 1).trans rfl;have HX:=Aside0.mk hbox;clear hbox hb hg_)|(go_at_call 70;(with_reducible refine(told_y k _ _ l0_0 _ _ l0_1 _ ?s1 ?s2 ?s3 ?s4 HF.out HLB.out).mono ?_);(case s1=>exact Kd.C_below HR0.out HB.out);(case s2=>exact HC0.out);(case s3=>exact Kd.C_below HR1.out HB.out);(case s4=>exact HC1.out);rintro e w2 ⟨g,v,rfl,hv,hge,hb⟩;have HB2:=Aside0.mk (below_step HB.out hb);have HV:=Aside0.mk hv;clear hv hge hb hx0 hx1 HX HB)|((with_reducible refine gate_dst (N:=11) rfl ?_);refine Kd.R_lit (Kd.int .i64) _ 3 ?hg (N:=11) ?hd (xs:=([]:List Int)) (inner:= []) (ok:=fun _=>True) (okp:=fun _=>True) ?hr ?hp (fun _ hk=>hk) trivial (Below.refl _ _) (Nat.le_refl _) (by simp) ?_;(case hd=>rfl);(case hg=>rfl);(case hr=>first|(go_simp;done)|(go_simp;rfl));(case hp=>exact(Reps.none _ _));intro v0 w3 ho hb hg_ hnew_;clear hg_ hnew_;have HO3:=Aside0.mk (Kd.R_mono (Kd.R_bound ho) (fun k hk=>hk.2.2.1));have HB3:=Aside0.mk hb;have HV3:=Aside0.mk (HV.out.below hb);clear ho hb)|(go_at_call 83;(with_reducible refine(agreeing_calls g l0_0 l0_1 v _ HLg.out HV3.out).mono ?_);rintro e w4 ⟨Aa,ca,rfl,ho,hb⟩;have HA4:=Aside0.mk (Kd.R_lower (Kd.R_mono (Kd.R_bound ho) (fun k hk=>(⟨hk.2.1,hk.2.2.1⟩:w3.heap.size≤k∧k<w4.heap.size))) (below_size HB3.out));have HO4:=Aside0.mk (Kd.R_mono (Kd.R_below HO3.out hb) (fun k hk=>(Or.inl hk:k<w3.heap.size∨w4.heap.size≤k)));have HB4:=Aside0.mk (below_step HB3.out hb);have HV4:=Aside0.mk (HV3.out.below hb);have hf0:=HV4.out.f0;clear ho hb HO3 HV3 HB3))
    go_loopg [6,4] M (fun kq v6 v4 W=> ∃s:Nat,v6= .int .i64 s∧Aside0 (s+kq=M+1)∧Aside0 (1≤s)∧Aside0 (s≤M)∧Aside0 (Kd.R (Kd.int .i64) 3 W w2.heap.size (fun k=>k<w3.heap.size∨w4.heap.size≤k) v4 (filI s (blkP l0_0 l0_1)))∧Aside0 (Kd.R (Kd.int .i64) 3 W w2.heap.size (fun k=>w3.heap.size≤k∧k<w4.heap.size) (.slice Aa l0_0.length ca) (agF l0_0 l0_1))∧Aside0 (Below w2.heap.size w2 W)∧Aside0 (w4.heap.size≤W.heap.size))
    case atStart=>exact⟨1,by first|rfl|simp,⟨by have:=HM1.out;omega⟩,⟨by omega⟩,⟨HM1.out⟩,⟨by rw [filI_one];exact HO4.out⟩,HA4,HB4,⟨Nat.le_refl _⟩⟩
    case round =>
      clear hf0
      obtain⟨s,rfl,HK,HK1,HK2,HOr,HAr,HBr,HEr⟩:=hrel
      have hf0:=(HV.out.below HBr.out).f0
      cases gk with
      |zero=>exact absurd HK.out (by have:=HK2.out;omega)
      |succ kn=>
      by_cases hlt:s<M
      · have hlt' : decide ((s : Int) < mv) = true := decide_eq_true (by rw [HMV.out]; omega)
        have HLT:=Aside0.mk hlt
        have HC:=Aside0.mk (show Kd.C (Kd.int .i64) wr Aa l0_0.length (agF l0_0 l0_1)∧l0_0.length≤ca by have h:=Kd.R_reads' HAr.out;rw [agF_length] at h;exact⟨h.2.2,h.2.1⟩)
        clear hlt
        by_cases hc:comS l0_0 l0_1 s=s
        · have HCS := Aside0.mk (show ((comS l0_0 l0_1 s : Nat) : Int) = (s : Int) by rw [hc])
          have HP:=Aside0.mk (show blkP l0_0 l0_1 s=true by unfold blkP;rw [hc,decide_eq_true HK1.out];simp)
          clear hc
          go_wp2_with (first|(go_at_call 84;(with_reducible refine(com_calls l0_1 HSM.out s (by have:=HLT.out;have:=HM2.out;omega) Aa ca _ HC.out.1 HC.out.2).mono ?_);rintro e w' ⟨he,⟨⟨nd,rfl⟩⟩⟩;rw [HCS.out] at he;subst he;have HO5:=Aside0.mk (Kd.R_drewN HOr.out nd);have HA5:=Aside0.mk (Kd.R_drewN HAr.out nd);have HB5:=Aside0.mk (pw_below_drewN HBr.out nd);clear HOr HAr HBr HC hf0)|((with_reducible refine gate_builtin (b:= .append) (xs:= #[.tmp 29,.tmp 31]) rfl ?_);at_builtin;refine Kd.R_append (Kd.int .i64) (w0:=w2) w2.heap.size rfl (.tmp 29) (.tmp 31) 24 3 (.int .i64 0) 8 rfl Try.underlying24 infoInt rfl (by decide) (by omega) u4 (filI s (blkP l0_0 l0_1)) (s:Int) [.int .i64 s] (fun k=>k<w3.heap.size∨w4.heap.size≤k) (fun _=>False) rfl rfl ?aP (fun _ hk=>hk.elim) ?aF ?aO ?aB ?aS ?aL ?_;(case aP=>exact rfl);(case aB=>exact HB5.out);(case aF=>exact(fun k hk=>Or.inr (Nat.le_trans HEr.out hk)));(case aO=>exact HO5.out);(case aS=>exact(below_size HB5.out));(case aL=>have:=filI_length s (blkP l0_0 l0_1);have:=HLT.out;have:=HM2.out;omega);intro v4n w21 ho hb hg hat;have HB6:=Aside0.mk hb;have HO6:=Aside0.mk ho;have HA6:=Aside0.mk (Kd.R_grown HA5.out hg (fun k hk he=>by have h2:=HO5.out.1 k he.symm;have:=hk.1;have:=hk.2;omega));have HE6:=Aside0.mk (show w4.heap.size≤w21.heap.size from Nat.le_trans HEr.out hg.size);clear ho hb hg hat HO5 HA5 HB5 HEr))
          go_roundg kn
          case measure=>omega
          case rel=>exact⟨s+1,zq324,⟨by have:=HK.out;omega⟩,⟨by omega⟩,⟨by have:=HLT.out;omega⟩,⟨by rw [filI_succ,if_pos HP.out];exact HO6.out⟩,HA6,HB6,HE6⟩
        · obtain ⟨cv, hcv⟩ : ∃ cv : Int, ((comS l0_0 l0_1 s : Nat) : Int) = cv := ⟨_, rfl⟩
          have hne:(cv==(s:Int))=false:=by rw [beq_eq_false_iff_ne,← hcv];omega
          have HCS:=Aside0.mk hcv
          have HP:=Aside0.mk (show blkP l0_0 l0_1 s=false by unfold blkP;rw [show (comS l0_0 l0_1 s==s)=false by simpa using hc,Bool.and_false])
          clear hc hcv
          go_wp2_with (go_at_call 84;(with_reducible refine(com_calls l0_1 HSM.out s (by have:=HLT.out;have:=HM2.out;omega) Aa ca _ HC.out.1 HC.out.2).mono ?_);rintro e w' ⟨he,⟨⟨nd,rfl⟩⟩⟩;rw [HCS.out] at he;subst he;have HO5:=Aside0.mk (Kd.R_drewN HOr.out nd);have HA5:=Aside0.mk (Kd.R_drewN HAr.out nd);have HB5:=Aside0.mk (pw_below_drewN HBr.out nd);clear HOr HAr HBr HC hf0)
          go_roundg kn
          case measure=>omega
          case rel=>exact⟨s+1,zq324,⟨by have:=HK.out;omega⟩,⟨by omega⟩,⟨by have:=HLT.out;omega⟩,⟨by rw [filI_succ,if_neg (by rw [HP.out];simp)];exact HO5.out⟩,HA5,HB5,HEr⟩
      · have hlt' : decide ((s : Int) < mv) = false := decide_eq_false (by rw [HMV.out]; omega)
        obtain rfl:s=M:=by have:=HK2.out;omega
        clear hlt
        go_wp2_with fail
        go_ret
        exact⟨_,rfl,Kd.R_lower (Kd.R_mono (by have h:=HOr.out;rw [HM.out] at h;exact h) (fun _ _=>trivial)) (below_size HB2.out),below_step HB2.out (by repeat(first|exact HBr.out|apply pw_below_drewN|apply below_drew1))⟩
def keepT (U : List (List Int)) (N : List Int) (a b : Int) : Bool := (at2 U a.toNat b.toNat == 0) || (orI U a (andI U b (notI N a)) == b)
def keepB (U : List (List Int)) (N : List Int) : Bool := allN U.length fun a => allN U.length fun b => keepT U N a b
set_option maxHeartbeats 4000000 in
set_option maxRecDepth 100000 in
theorem keeps_c1 (g : Nat) (U : List (List Int)) (N : List Int) (v : Adr) (w : World) (L : Logic U N) (hV : View w g U N v) (gG : Nat) (a b : Int) (ia : In U a) (ib : In U b) (hG : w.heap[gG]? = some (.cells #[.pointer (some ⟨g, 0, none⟩)] 67 (0, 0))) :
    Calls Try.prog 82 #[.int .i64 a,.int .i64 b,.pointer (some ⟨gG,0,none⟩)] w fun e w'=>e= .returned (.bool (keepT U N a b))∧Below w.heap.size w w':=by
  have hu70:=Try.underlying74
  have HV:=Aside0.mk hV
  have HLg:=Aside0.mk L
  have Ia:=Aside0.mk ia
  have Ib:=Aside0.mk ib
  have x1:w.cell? ⟨gG,0,none⟩=some (.pointer (some ⟨g,0,none⟩)):=(blk_cell hG 0).trans rfl
  clear hV L ia ib hG
  have b0_:=eq_true Ia.out.1;have c0_:=eq_true Ia.out.2
  have b1_:=eq_true Ib.out.1;have c1_:=eq_true Ib.out.2
  have hf0_:=HV.out.f0
  have r3_:=HV.out.u a Ia.out
  have s4_:=HV.out.u2 a b Ia.out Ib.out
  have hf3_:=HV.out.f3
  have n6_:=HV.out.n a Ia.out
  have IN1_:=Aside0.mk (HLg.out.in_not Ia.out)
  have b7_:=eq_true IN1_.out.1;have c7_:=eq_true IN1_.out.2
  have hf1_:=HV.out.f1
  have r9_:=HV.out.m b Ib.out
  have s10_:=HV.out.m2 b (notI N a) Ib.out IN1_.out
  have IN2_:=Aside0.mk (HLg.out.in_and Ib.out IN1_.out)
  have b11_:=eq_true IN2_.out.1;have c11_:=eq_true IN2_.out.2
  have hf2_:=HV.out.f2
  have r13_:=HV.out.j a Ia.out
  have s14_:=HV.out.j2 a (andI U b (notI N a)) Ia.out IN2_.out
  unfold keepT
  cases hq:(at2 U a.toNat b.toNat==0) with
  | true =>
    rw [Bool.true_or]
    go_enter Try.func82,Try.ntmps82
    go_wp2_with fail
    go_quiet (fail)
    go_wp2
    go_ret
    exact⟨rfl,by repeat(first|exact Below.refl _ _|apply pw_below_drewN|apply below_drew1)⟩
  | false =>
    rw [Bool.false_or]
    go_enter Try.func82,Try.ntmps82
    go_wp2_with fail
    go_quiet (fail)
    go_wp2
    go_ret
    exact⟨rfl,by repeat(first|exact Below.refl _ _|apply pw_below_drewN|apply below_drew1)⟩
def impl_KeepsOk.f (l0_0 : List (List Int)) (l0_1 : List Int) : Option (Bool) := some (if logicB l0_0 l0_1 = true then keepB l0_0 l0_1 else false)
set_option maxHeartbeats 4000000 in
theorem impl_KeepsOk.calls (A0_0 : Option Addr) (c0_0 : Nat) (l0_0 : List (List Int)) (A0_1 : Option Addr) (c0_1 : Nat) (l0_1 : List Int) (r : Bool) (w : World) (hr0_0 : Kd.C (Kd.slice 3 (Kd.int .i64)) w A0_0 l0_0.length l0_0) (hc0_0 : l0_0.length ≤ c0_0) (hr0_1 : Kd.C (Kd.int .i64) w A0_1 l0_1.length l0_1) (hc0_1 : l0_1.length ≤ c0_1) (h : impl_KeepsOk.f l0_0 l0_1 = some r) :
    Calls Try.prog 19 #[.agg #[.slice A0_0 l0_0.length c0_0,.slice A0_1 l0_1.length c0_1]] w fun e w'=>e= .returned (.bool r)∧Below w.heap.size w w':=by
  obtain⟨k,hF⟩:=told_facts l0_0
  have hu30:=Try.underlying26
  have hu70:=Try.underlying74
  have HF:=Aside0.mk hF
  have HR0:=Aside0.mk hr0_0
  have HC0:=Aside0.mk hc0_0
  have HR1:=Aside0.mk hr0_1
  have HC1:=Aside0.mk hc0_1
  simp only [impl_KeepsOk.f,Option.some.injEq] at h
  clear hr0_0 hc0_0 hr0_1 hc0_1 hF
  cases hL:logicB l0_0 l0_1 with
  | false =>
    rw [hL] at h
    have hr_:false=r:=by simpa using h
    subst hr_
    have HLB:=Aside0.mk hL
    clear h hL
    go_enter Try.func19,Try.ntmps19
    go_wp2_with (first|((with_reducible refine gate_dst (N:=1) rfl ?_);refine box_event ?hg (N:=1) ?hd (cs:= #[.slice A0_0 l0_0.length c0_0,.slice A0_1 l0_1.length c0_1]) (t:=26) ?hr ?_;(case hd=>rfl);(case hg=>rfl);(case hr=>first|(go_simp;done)|(go_simp;rfl));intro gb hg_ w1 hbox hb;have HB:=Aside0.mk hb;have hx0:w1.cell? ⟨gb,0,none⟩=some (.slice A0_0 l0_0.length c0_0):=(blk_cell hbox 0).trans rfl;have hx1:w1.cell? ⟨gb,1,none⟩=some (.slice A0_1 l0_1.length c0_1):=(blk_cell hbox 1).trans rfl;have HX:=Aside0.mk hbox;clear hbox hb hg_)|(go_at_call 70;(with_reducible refine(told_n k _ _ l0_0 _ _ l0_1 _ ?s1 ?s2 ?s3 ?s4 HF.out HLB.out).mono ?_);(case s1=>exact Kd.C_below HR0.out HB.out);(case s2=>exact HC0.out);(case s3=>exact Kd.C_below HR1.out HB.out);(case s4=>exact HC1.out);rintro e w2 ⟨rfl,hb⟩;have HB2:=Aside0.mk (below_step HB.out hb);clear hb hx0 hx1 HX HB))
    go_ret
    exact⟨rfl,zq233⟩
  | true =>
    rw [hL] at h
    have hr_:keepB l0_0 l0_1=r:=by simpa using h
    subst hr_
    have HLB:=Aside0.mk hL
    have HLg:=Aside0.mk (logicB_iff.1 hL)
    have HSM:=Aside0.mk (logicB_iff.1 hL).small
    clear h hL
    unfold keepB
    go_enter Try.func19,Try.ntmps19
    go_wp2_with (first|((with_reducible refine gate_dst (N:=1) rfl ?_);refine box_event ?hg (N:=1) ?hd (cs:= #[.slice A0_0 l0_0.length c0_0,.slice A0_1 l0_1.length c0_1]) (t:=26) ?hr ?_;(case hd=>rfl);(case hg=>rfl);(case hr=>first|(go_simp;done)|(go_simp;rfl));intro gb hg_ w1 hbox hb;have HB:=Aside0.mk hb;have hx0:w1.cell? ⟨gb,0,none⟩=some (.slice A0_0 l0_0.length c0_0):=(blk_cell hbox 0).trans rfl;have hx1:w1.cell? ⟨gb,1,none⟩=some (.slice A0_1 l0_1.length c0_1):=(blk_cell hbox 1).trans rfl;have HX:=Aside0.mk hbox;clear hbox hb hg_)|(go_at_call 70;(with_reducible refine(told_y k _ _ l0_0 _ _ l0_1 _ ?s1 ?s2 ?s3 ?s4 HF.out HLB.out).mono ?_);(case s1=>exact Kd.C_below HR0.out HB.out);(case s2=>exact HC0.out);(case s3=>exact Kd.C_below HR1.out HB.out);(case s4=>exact HC1.out);rintro e w2 ⟨g,v,rfl,hv,hge,hb⟩;have HB2:=Aside0.mk (below_step HB.out hb);have HV:=Aside0.mk hv;clear hv hge hb hx0 hx1 HX HB)|(go_at_call 71;(with_reducible refine(every_pure g l0_0 l0_1 v _ HSM.out ?sV 82 _ #[.pointer (some ⟨w2.heap.size,0,none⟩)] Try.func82 (by kernel_rfl) rfl (fun a b=>keepT l0_0 l0_1 a b) ?sT).mono ?_);(case sV=>exact View.alloc HV.out _);(case sT=>exact fun a b ha hb W hW=>keeps_c1 g l0_0 l0_1 v W HLg.out ((View.alloc HV.out _).below hW) w2.heap.size a b ⟨by omega,by omega⟩ ⟨by omega,by omega⟩ (blk_below (MapKept.heap_alloc w2 _).1 hW));rintro e w4 ⟨rfl,hb⟩;have HB4:=Aside0.mk (below_step (below_alloc HB2.out _) hb);clear hb))
    go_ret
    exact⟨rfl,zq344⟩
end Go.Proofs.Ytcbjpdaogicibaa.Print
end
section
namespace Go.Proofs.Ytcbjpdaogicibaa.Print
open Go.RowKit Go.Proofs.YtcbjpdaogicibaaW.PrintWords Go.Proofs.YtcbjpdaogicibaaW.PrintLast Go.Proofs.YtcbjpdaogicibaaW.PrintMore
open Oml
section
variable {U : List (List Int)} {N : List Int} (L : Logic U N)
theorem fin_of_nat {i : Nat} (h : i < U.length) : ∃ x : Fin U.length, i = x.1 := ⟨⟨i, h⟩, rfl⟩
theorem fin_inj {x y : Fin U.length} : (((x.1 : Nat) : Int) = ((y.1 : Nat) : Int)) ↔ x = y := by
  constructor
  · intro h; exact Fin.ext (by omega)
  · intro h; rw [h]
theorem fin_beq (x y : Fin U.length) : (((x.1 : Nat) : Int) == ((y.1 : Nat) : Int)) = decide (x = y) := by
  rw [Bool.eq_iff_iff, beq_iff_eq, decide_eq_true_eq]; exact fin_inj
theorem leB_fin (x y : Fin U.length) : leB U x.1 y.1 = true ↔ L.ol.le x y := Iff.rfl
theorem allN_fin {n : Nat} {p : Nat → Bool} : allN n p = true ↔ ∀ x : Fin n, p x.1 = true := by
  rw [allN_iff]
  exact ⟨fun h x => h x.1 x.2, fun h i hi => h ⟨i, hi⟩⟩
end
end Go.Proofs.Ytcbjpdaogicibaa.Print
end
section
namespace Go.Proofs.Ytcbjpdaogicibaa.Print
open Go.RowKit Go.Proofs.YtcbjpdaogicibaaW.PrintWords Go.Proofs.YtcbjpdaogicibaaW.PrintLast Go.Proofs.YtcbjpdaogicibaaW.PrintMore
open Oml
def comR (n : Nat) (R : Nat → Nat → Bool) (s : Nat) : Nat := setB n fun b => allN n fun a => !(s.testBit a) || R a b
def Rel (n : Nat) (R : Nat → Nat → Bool) (s : Nat) : Prop := ∀ a b, a < n → b < n → s.testBit a = true → s.testBit b = true → R a b = true
theorem comR_bit (n : Nat) (R : Nat → Nat → Bool) (s b : Nat) (hb : b < n) : (comR n R s).testBit b = true ↔ ∀ a, a < n → s.testBit a = true → R a b = true := by
  unfold comR
  rw [setB_bit,decide_eq_true hb,Bool.true_and,allN_iff]
  constructor
  · intro h a ha hs
    have:=h a ha
    rw [hs] at this
    simpa using this
  · intro h a ha
    cases hs:s.testBit a with
    |false=>rfl
    |true=>rw [h a ha hs];rfl
theorem bit_lt {n s b : Nat} (hs : s < 2 ^ n) (h : s.testBit b = true) : b < n := by
  apply Classical.byContradiction
  intro hn
  have h2 : s < 2 ^ b := Nat.lt_of_lt_of_le hs (Nat.pow_le_pow_right (by omega) (by omega))
  rw [Nat.testBit_lt_two_pow h2] at h
  exact absurd h (by simp)
theorem comR_self {n : Nat} {R : Nat → Nat → Bool} {s : Nat} (h : comR n R s = s) : Rel n R s := fun a b ha hb h1 h2 => by
  rw [← h] at h2
  exact (comR_bit n R s b hb).1 h2 a ha h1
theorem block_ext {n : Nat} {R : Nat → Nat → Bool} (hr : ∀ a, a < n → R a a = true) (hsy : ∀ a b, a < n → b < n → R a b = true → R b a = true) :
    ∀d s,s<2 ^ n→2 ^ n≤s+d→Rel n R s→ ∃t,t<2 ^ n∧comR n R t=t∧ ∀a,s.testBit a=true→t.testBit a=true:=by
  intro d
  induction d with
  |zero=>intro s hs h;omega
  | succ d ih =>
    intro s hs hd hR
    by_cases hc:comR n R s=s
    · exact⟨s,hs,hc,fun _ h=>h⟩
    have hsub : ∀ a, s.testBit a = true → (comR n R s).testBit a = true := fun a ha => by
      have han:=bit_lt hs ha
      exact(comR_bit n R s a han).2 fun b hb hsb=>hR b a hb han hsb ha
    obtain ⟨b, hb1, hb2⟩ : ∃ b, (comR n R s).testBit b = true ∧ s.testBit b = false := by
      apply Classical.byContradiction
      intro hne
      apply hc
      apply Nat.eq_of_testBit_eq
      intro i
      cases h1:s.testBit i with
      |true=>exact hsub i h1
      | false =>
        cases h2:(comR n R s).testBit i with
        |false=>rfl
        |true=>exact absurd ⟨i,h2,h1⟩ hne
    have hbn:b<n:=bit_lt (setB_lt n _) hb1
    have hcom:=(comR_bit n R s b hbn).1 hb1
    have hlt : s < s ||| 2 ^ b := by
      have h1:s≤s|||2 ^ b:=Nat.left_le_or
      have h2 : s ≠ s ||| 2 ^ b := fun e => by
        have h3:(s|||2 ^ b).testBit b=true:=by rw [Nat.testBit_or,Nat.testBit_two_pow_self,Bool.or_true]
        rw [← e,hb2] at h3
        exact absurd h3 (by simp)
      omega
    have hlt2:s|||2 ^ b<2 ^ n:=Nat.or_lt_two_pow hs (Nat.pow_lt_pow_right (by omega) hbn)
    obtain ⟨t, t1, t2, t3⟩ := ih (s ||| 2 ^ b) hlt2 (by omega) (fun a c ha hc' h1 h2 => by
      rw [Nat.testBit_or,Nat.testBit_two_pow,Bool.or_eq_true,decide_eq_true_eq] at h1 h2
      rcases h1 with h1|h1
      · rcases h2 with h2 | h2
        · exact hR a c ha hc' h1 h2
        · subst h2;exact hcom a ha h1
      · subst h1
        rcases h2 with h2|h2
        · exact hsy c b hc' hbn (hcom c hc' h2)
        · subst h2;exact hr b hbn)
    exact⟨t,t1,t2,fun a ha=>t3 a (by rw [Nat.testBit_or,ha];rfl)⟩
def blkR (n : Nat) (R : Nat → Nat → Bool) : List Nat := (List.range (2 ^ n)).filter fun s => decide (1 ≤ s) && (comR n R s == s)
theorem mem_blkR {n : Nat} {R : Nat → Nat → Bool} {s : Nat} : s ∈ blkR n R ↔ s < 2 ^ n ∧ 1 ≤ s ∧ comR n R s = s := by
  unfold blkR
  rw [List.mem_filter, List.mem_range, Bool.and_eq_true, decide_eq_true_eq, beq_iff_eq]
theorem block_of {n : Nat} {R : Nat → Nat → Bool} (hr : ∀ a, a < n → R a a = true) (hsy : ∀ a b, a < n → b < n → R a b = true → R b a = true) {s : Nat} (hs : s < 2 ^ n) (h1 : 1 ≤ s) (hR : Rel n R s) :
    ∃t,t ∈ blkR n R∧ ∀a,s.testBit a=true→t.testBit a=true:=by
  obtain⟨t,t1,t2,t3⟩:=block_ext hr hsy (2 ^ n) s hs (by omega) hR
  refine⟨t,mem_blkR.2 ⟨t1,?_,t2⟩,t3⟩
  apply Classical.byContradiction
  intro h0
  have ht:t=0:=by omega
  obtain⟨i,hi⟩:=Nat.exists_testBit_of_ne_zero (show s≠0 by omega)
  have:=t3 i hi
  rw [ht,Nat.zero_testBit] at this
  exact absurd this (by simp)
theorem filter_one {m x : Nat} (hx : x < m) {p : Nat → Bool} (hp : ∀ s, s < m → (p s = true ↔ s = x)) : (List.range m).filter p = [x] := by
  have h1 : (List.range m).filter p = (List.range m).filter (· == x) := by
    apply List.filter_congr
    intro s hs
    rw [Bool.eq_iff_iff,hp s (by simpa using hs),beq_iff_eq]
  rw [h1]
  clear h1 hp
  induction m with
  |zero=>omega
  | succ m ih =>
    rw [List.range_succ,List.filter_append]
    by_cases e:x=m
    · subst e
      have h0 : (List.range x).filter (fun s => s == x) = [] := List.filter_eq_nil_iff.2 fun s hs => by
        have:s<x:=by simpa using hs
        simp only [beq_iff_eq]
        omega
      rw [h0]
      simp
    · rw [ih (by omega)]
      have:(m==x)=false:=by rw [beq_eq_false_iff_ne];omega
      simp [this]
theorem blkR_one {n : Nat} {R : Nat → Nat → Bool} (hn : 1 ≤ n) (hr : ∀ a, a < n → R a a = true) (hsy : ∀ a b, a < n → b < n → R a b = true → R b a = true) :
    (blkR n R).length=1↔ ∀a b,a<n→b<n→R a b=true:=by
  constructor
  · intro h a b ha hb
    have one : ∀ x, x < n → ∃ t, t ∈ blkR n R ∧ t.testBit x = true := fun x hx => by
      obtain ⟨t, h1, h2⟩ := block_of (s := 2 ^ x) hr hsy (Nat.pow_lt_pow_right (by omega) hx) Nat.one_le_two_pow (fun c d _ _ h1 h2 => by
        rw [Nat.testBit_two_pow,decide_eq_true_eq] at h1 h2
        subst h1;subst h2
        exact hr _ hx)
      exact⟨t,h1,h2 x (Nat.testBit_two_pow_self)⟩
    obtain⟨t,t1,t2⟩:=one a ha
    obtain⟨u,u1,u2⟩:=one b hb
    obtain⟨z,hz⟩:=List.length_eq_one_iff.1 h
    rw [hz,List.mem_singleton] at t1 u1
    subst t1;subst u1
    have:=comR_self (mem_blkR.1 (hz ▸ List.mem_singleton.2 rfl)).2.2
    exact this a b ha hb t2 u2
  · intro h
    have hfull : ∀ s, comR n R s = 2 ^ n - 1 := fun s => by
      rw [setB_all]
      unfold comR
      exact setB_congr fun b hb=>allN_iff.2 fun a ha=>by rw [h a b ha hb];simp
    have h2:2≤2 ^ n:=Nat.le_trans (by decide:2≤2 ^ 1) (Nat.pow_le_pow_right (by omega) hn)
    unfold blkR
    rw [filter_one (x := 2 ^ n - 1) (by omega) fun s hs => by
      rw [hfull s,Bool.and_eq_true,decide_eq_true_eq,beq_iff_eq]
      omega]
    rfl
theorem natcast_beq (x y : Nat) : ((x : Int) == (y : Int)) = (x == y) := by rw [Bool.eq_iff_iff, beq_iff_eq, beq_iff_eq]; constructor <;> intro h <;> omega
theorem filI_all (n : Nat) (p : Nat → Bool) : ((filI n p).length == n) = allN n p := by
  rw [Bool.eq_iff_iff,beq_iff_eq,allN_iff]
  unfold filI
  rw [List.length_map]
  constructor
  · intro h i hi
    have h2:((List.range n).filter p).length=(List.range n).length:=by rw [h];simp
    have:=List.length_filter_eq_length_iff.1 h2 i (by simpa using hi)
    exact this
  · intro h
    rw [List.filter_eq_self.2 (fun i hi=>h i (by simpa using hi))]
    simp
theorem alg_split0.reads (g : Nat) (U : List (List Int)) (N : List Int) (v : Adr) (a : Int) (b : Int) (c : Int) (w : World) (L : Logic U N) (hV : View w g U N v) (ia : In U a) (ib : In U b) (ic : In U c) :
    Calls Try.prog 75 #[.pointer (some ⟨g,0,none⟩),.int .i64 a,.int .i64 b,.int .i64 c] w fun e w'=>e= .returned (.bool ((andI U a (orI U b c))==(orI U (andI U a b) (andI U a c))))∧Drawn0 w w':=by
  have hu70:=Try.underlying74
  have HV:=Aside0.mk hV
  have HLg:=Aside0.mk L
  have Ia:=Aside0.mk ia
  have Ib:=Aside0.mk ib
  have Ic:=Aside0.mk ic
  clear hV L ia ib ic
  have b0_:=eq_true Ib.out.1;have c0_:=eq_true Ib.out.2
  have b1_:=eq_true Ic.out.1;have c1_:=eq_true Ic.out.2
  have hf2_:=HV.out.f2
  have r3_:=HV.out.j b Ib.out
  have s4_:=HV.out.j2 b c Ib.out Ic.out
  have b5_:=eq_true Ia.out.1;have c5_:=eq_true Ia.out.2
  have IN1_:=Aside0.mk (HLg.out.in_or Ib.out Ic.out)
  have b6_:=eq_true IN1_.out.1;have c6_:=eq_true IN1_.out.2
  have hf1_:=HV.out.f1
  have r8_:=HV.out.m a Ia.out
  have s9_:=HV.out.m2 a (orI U b c) Ia.out IN1_.out
  have s10_:=HV.out.m2 a b Ia.out Ib.out
  have s11_:=HV.out.m2 a c Ia.out Ic.out
  have IN2_:=Aside0.mk (HLg.out.in_and Ia.out Ib.out)
  have b12_:=eq_true IN2_.out.1;have c12_:=eq_true IN2_.out.2
  have IN3_:=Aside0.mk (HLg.out.in_and Ia.out Ic.out)
  have b13_:=eq_true IN3_.out.1;have c13_:=eq_true IN3_.out.2
  have r14_:=HV.out.j (andI U a b) IN2_.out
  have s15_:=HV.out.j2 (andI U a b) (andI U a c) IN2_.out IN3_.out
  go_enter Try.func75,Try.ntmps75
  go_wp2_with fail
  go_quiet (fail)
  go_wp2
  go_ret
  exact⟨rfl,⟨⟨_,rfl⟩⟩⟩
theorem alg_split.reads (g : Nat) (U : List (List Int)) (N : List Int) (v : Adr) (a b c : Int) (w : World) (L : Logic U N) (hV : View w g U N v) (ia : In U a) (ib : In U b) (ic : In U c) :
    Calls Try.prog 75 #[.pointer (some ⟨g,0,none⟩),.int .i64 a,.int .i64 b,.int .i64 c] w fun e w'=>e= .returned (.bool (splitB U a b c))∧Drawn0 w w':=alg_split0.reads g U N v a b c w L hV ia ib ic
def booB (U : List (List Int)) : Bool := allN U.length fun a => allN U.length fun b => allN U.length fun c => splitB U a b c
theorem boo_c2 (g : Nat) (U : List (List Int)) (N : List Int) (v : Adr) (w : World) (L : Logic U N) (hV : View w g U N v) (gG gA gC : Nat) (a b c : Int) (ia : In U a) (ib : In U b) (ic : In U c)
    (hG:w.heap[gG]? =some (.cells #[.pointer (some ⟨g,0,none⟩)] 67 (0,0))) (hA:w.heap[gA]? =some (.cells #[.int .i64 a] 3 (0,0))) (hC:w.heap[gC]? =some (.cells #[.int .i64 c] 3 (0,0))):
    Calls Try.prog 74 #[.int .i64 b,.pointer (some ⟨gG,0,none⟩),.pointer (some ⟨gA,0,none⟩),.pointer (some ⟨gC,0,none⟩)] w fun e w'=>e= .returned (.bool (splitB U a c b))∧Below w.heap.size w w':=by
  have hu70:=Try.underlying74
  have HV:=Aside0.mk hV
  have HLg:=Aside0.mk L
  have Ia:=Aside0.mk ia
  have Ib:=Aside0.mk ib
  have Ic:=Aside0.mk ic
  have x0:w.cell? ⟨gG,0,none⟩=some (.pointer (some ⟨g,0,none⟩)):=(blk_cell hG 0).trans rfl
  have x1:w.cell? ⟨gA,0,none⟩=some (.int .i64 a):=(blk_cell hA 0).trans rfl
  have x2:w.cell? ⟨gC,0,none⟩=some (.int .i64 c):=(blk_cell hC 0).trans rfl
  clear hV L ia ib ic hG hA hC
  go_enter Try.func74,Try.ntmps74
  go_wp2_with (go_at_call 75;(with_reducible refine(alg_split.reads g U N v a c b _ HLg.out ?s1 Ia.out Ic.out Ib.out).mono ?_);(case s1=>repeat(first|exact HV.out|apply View.drewN));rintro e w' ⟨rfl,⟨⟨nd,rfl⟩⟩⟩)
  go_ret
  exact⟨rfl,by repeat(first|exact Below.refl _ _|apply pw_below_drewN|apply below_drew1)⟩
def boo_c1.T1 : Bool × List (List Nat × List Nat) := (true, [([], []), ([], []), ([0, 1], [0, 1]), ([2], [2]), ([], []), ([4], [4]), ([5], [5]), ([6], [6]), ([7], [7]), ([3, 8], [3, 8]), ([9, 2, 0, 1, 2, 3, 4, 5, 6, 7, 8, 9], [9])])
def boo_c1.B1 : List Nat := [0, 0, 3, 7, 0, 16, 48, 112, 240, 511, 1023]
theorem boo_c1.tab1 : rtab .any (opsOf Try.f72 1) = boo_c1.T1 := by kernel_rfl
theorem boo_c1.bits1 : waitsOk boo_c1.T1.2 boo_c1.B1 = true := by kernel_rfl
set_option maxHeartbeats 4000000 in
set_option maxRecDepth 100000 in
theorem boo_c1 (g : Nat) (U : List (List Int)) (N : List Int) (v : Adr) (w : World) (L : Logic U N) (hV : View w g U N v) (gG : Nat) (a c : Int) (ia : In U a) (ic : In U c) (hG : w.heap[gG]? = some (.cells #[.pointer (some ⟨g, 0, none⟩)] 67 (0, 0))) :
    Calls Try.prog 72 #[.int .i64 a,.int .i64 c,.pointer (some ⟨gG,0,none⟩)] w fun e w'=>e= .returned (.bool (allN U.length fun b=>splitB U a c b))∧Below w.heap.size w w':=by
  have hu70:=Try.underlying74
  have HV:=Aside0.mk hV
  have HLg:=Aside0.mk L
  have Ia:=Aside0.mk ia
  have Ic:=Aside0.mk ic
  have HG:=Aside0.mk hG
  clear hV L ia ic hG
  rw [← filI_all]
  go_enter Try.func72,Try.ntmps72
  go_wp2_with (first|((with_reducible refine gate_dst (N:=3) rfl ?_);refine box_event ?hg (N:=3) ?hd (cs:= #[.int .i64 a]) (t:=3) ?hr ?_;(case hd=>rfl);(case hg=>rfl);(case hr=>first|(go_simp;done)|(go_simp;rfl));intro gA hg_ w1 hbox hb;have HXA:=Aside0.mk hbox;have HB1:=Aside0.mk hb;have HG1:=Aside0.mk (blk_below HG.out hb);have HV1:=Aside0.mk (HV.out.below hb);clear hbox hb hg_)|((with_reducible refine gate_dst (N:=4) rfl ?_);refine box_event ?hg (N:=4) ?hd (cs:= #[.int .i64 c]) (t:=3) ?hr ?_;(case hd=>rfl);(case hg=>rfl);(case hr=>first|(go_simp;done)|(go_simp;rfl));intro gC hg_ w2 hbox hb;have HXC:=Aside0.mk hbox;have HB2:=Aside0.mk (below_step HB1.out hb);have HXA2:=Aside0.mk (blk_below HXA.out hb);have HG2:=Aside0.mk (blk_below HG1.out hb);have HV2:=Aside0.mk (HV1.out.below hb);clear HB1 HXA HG1 HV1;clear hbox hb hg_))
  refine start_ (n:=11) (S:=(fun w'=>w'.cell? ⟨gG,0,none⟩=some (.pointer (some ⟨g,0,none⟩))∧w'.cell? ⟨g,0,none⟩=some (.slice (some v.aU) U.length v.cU))) (ds:= []) (zqb 11 0) (by kernel_rfl) rfl rfl ⟨(blk_cell (blk_drew HG2.out) 0).trans rfl,(HV2.out.below (below_drew1 (Below.refl _ _))).f0⟩ (fun hHeld=>?_)
  refine with_tabW boo_c1.tab1 boo_c1.bits1 (fun HT_ HW_=>?_)
  generalize hwd:w2.drew=wd at hHeld ⊢
  have HB3:=Aside0.mk (show Below w.heap.size w wd from hwd ▸ below_drew1 HB2.out)
  replace HG2:=Aside0.mk (hwd ▸ blk_drew HG2.out)
  replace HXA2:=Aside0.mk (hwd ▸ blk_drew HXA2.out)
  replace HXC:=Aside0.mk (hwd ▸ blk_drew HXC.out)
  replace HV2:=Aside0.mk (show View wd g U N v from hwd ▸ HV2.out.below (below_drew1 (Below.refl _ _)))
  clear hwd HB2
  refine take_ (i:=0) (N:=some 6) (v:=?_) (a':=?_) (zqb 11 1) rfl rfl (take_ofW HT_.out HW_.out (by kernel_rfl)) (fun _ _ _ h=>h) (Or.inl ⟨by rfl,?_⟩) hHeld ?_ ?_
  rotate_left
  · rintro w' ⟨s0,s1⟩;go_simp;with_reducible rfl
  rotate_left
  · simp only [Act.put,List.setIfInBounds_toArray,List.set_cons_zero,List.set_cons_succ,i64_w,i32_w];rfl
  refine pure_ (i:=1) (N:=some 7) (v:=?_) (a':=?_) (zqb 11 3) rfl rfl (any_of HT_.out (by kernel_rfl)) (fun _ _ _ h=>h) (Or.inl ⟨by rfl,?_⟩) ?_ ?_
  rotate_left
  · intro w';go_simp;with_reducible rfl
  rotate_left
  · simp only [Act.put,List.setIfInBounds_toArray,List.set_cons_zero,List.set_cons_succ,i64_w,i32_w];rfl
  refine take_ (i:=4) (N:=some 10) (v:=?_) (a':=?_) (zqb 11 19) rfl rfl (take_ofW HT_.out HW_.out (by kernel_rfl)) (fun _ _ _ h=>h) (Or.inl ⟨by rfl,?_⟩) hHeld ?_ ?_
  rotate_left
  · rintro w' ⟨s0,s1⟩;go_simp;with_reducible rfl
  rotate_left
  · simp only [Act.put,List.setIfInBounds_toArray,List.set_cons_zero,List.set_cons_succ,i64_w,i32_w];rfl
  refine pure_ (i:=5) (N:=some 11) (v:=?_) (a':=?_) (zqb 11 51) rfl rfl (any_of HT_.out (by kernel_rfl)) (fun _ _ _ h=>h) (Or.inl ⟨by rfl,?_⟩) ?_ ?_
  rotate_left
  · intro w';go_simp;with_reducible rfl
  rotate_left
  · simp only [Act.put,List.setIfInBounds_toArray,List.set_cons_zero,List.set_cons_succ,i64_w,i32_w];rfl
  refine pure_ (i:=6) (N:=some 12) (v:=?_) (a':=?_) (zqb 11 115) rfl rfl (any_of HT_.out (by kernel_rfl)) (fun _ _ _ h=>h) (Or.inl ⟨by rfl,?_⟩) ?_ ?_
  rotate_left
  · intro w';go_simp;with_reducible rfl
  rotate_left
  · simp only [Act.put,List.setIfInBounds_toArray,List.set_cons_zero,List.set_cons_succ,i64_w,i32_w];rfl
  refine take_ (i:=7) (N:=some 13) (v:=?_) (a':=?_) (zqb 11 243) rfl rfl (take_ofW HT_.out HW_.out (by kernel_rfl)) (fun _ _ _ h=>h) (Or.inl ⟨by rfl,?_⟩) hHeld ?_ ?_
  rotate_left
  · rintro w' ⟨s0,s1⟩;go_simp;with_reducible rfl
  rotate_left
  · simp only [Act.put,List.setIfInBounds_toArray,List.set_cons_zero,List.set_cons_succ,i64_w,i32_w];rfl
  refine pure_ (i:=8) (N:=some 14) (v:=?_) (a':=?_) (zqb 11 499) rfl rfl (any_of HT_.out (by kernel_rfl)) (fun _ _ _ h=>h) (Or.inl ⟨by rfl,?_⟩) ?_ ?_
  rotate_left
  · intro w';go_simp;with_reducible rfl
  rotate_left
  · simp only [Act.put,List.setIfInBounds_toArray,List.set_cons_zero,List.set_cons_succ,i64_w,i32_w];rfl
  refine one_ (i:=2) (N:=some 8) (zqb 11 503) rfl rfl (one_of HT_.out (by kernel_rfl)) (by decide) (fun K hK=>?_)
  refine goes_ Try.func73 (by kernel_rfl) rfl #[.pointer (some ⟨g,0,none⟩),.func (.func 74) #[] #[.pointer (some ⟨gG,0,none⟩),.pointer (some ⟨gA,0,none⟩),.pointer (some ⟨gC,0,none⟩)]] (by rfl) rfl rfl zq120 ?_
  refine(all_calls g U N v _ HLg.out.small HV2.out 74 _ _ Try.func74 (by kernel_rfl) rfl (fun b:Nat=>splitB U a c b) (fun b hb W hW=>?_)).mono ?_
  · exact boo_c2 g U N v W HLg.out (HV2.out.below hW) gG gA gC a b c Ia.out ⟨by omega,by omega⟩ Ic.out (blk_below HG2.out hW) (blk_below HXA2.out hW) (blk_below HXC.out hW)
  rintro e w4 ⟨vo,rfl,ho,hb⟩
  obtain⟨Ao,co,rfl⟩:=Kd.R_slice ho
  refine⟨_,rfl,?_⟩
  refine hK.out _ _ ⟨(blk_cell (blk_below HG2.out hb) 0).trans rfl,(HV2.out.below hb).f0⟩ (fun hHeld4=>?_)
  have HB4:=Aside0.mk (below_step HB3.out hb)
  clear hK K ho hb
  (try simp only [Act.put,List.setIfInBounds_toArray,List.set_cons_zero,List.set_cons_succ])
  refine pure_ (i:=3) (N:=some 9) (v:=?_) (a':=?_) (zqb 11 511) rfl rfl (any_of HT_.out (by kernel_rfl)) (fun _ _ _ h=>h) (Or.inl ⟨by rfl,?_⟩) ?_ ?_
  rotate_left
  · intro w';go_simp;with_reducible rfl
  rotate_left
  · simp only [Act.put,List.setIfInBounds_toArray,List.set_cons_zero,List.set_cons_succ,i64_w,i32_w];rfl
  refine pure_ (i:=9) (N:=some 15) (v:=?_) (a':=?_) (zqb 11 1023) rfl rfl (any_of HT_.out (by kernel_rfl)) (fun _ _ _ h=>h) (Or.inl ⟨by rfl,?_⟩) ?_ ?_
  rotate_left
  · intro w';go_simp;with_reducible rfl
  rotate_left
  · simp only [Act.put,List.setIfInBounds_toArray,List.set_cons_zero,List.set_cons_succ,i64_w,i32_w];rfl
  refine pure_ (i:=10) (N:=some 5) (v:=?_) (a':=?_) (zqb 11 2047) rfl rfl (any_of HT_.out (by kernel_rfl)) (fun _ _ _ h=>h) (Or.inl ⟨by rfl,?_⟩) ?_ ?_
  rotate_left
  · intro w';go_simp;with_reducible rfl
  rotate_left
  · simp only [Act.put,List.setIfInBounds_toArray,List.set_cons_zero,List.set_cons_succ,i64_w,i32_w];rfl
  refine done_ (done_of HT_.out (by kernel_rfl)) ?_
  go_wp2
  go_ret
  refine⟨?_,zq344⟩
  show Ending.returned (Value.bool (((filI U.length fun b=>splitB U a c (b:Int)).length:Int)==(U.length:Int)))=_
  rw [natcast_beq]
def impl_BooleanOk.f (l0_0 : List (List Int)) (l0_1 : List Int) : Option (Bool) := some (if logicB l0_0 l0_1 = true then booB l0_0 else false)
set_option maxHeartbeats 4000000 in
set_option maxRecDepth 100000 in
theorem impl_BooleanOk.calls (A0_0 : Option Addr) (c0_0 : Nat) (l0_0 : List (List Int)) (A0_1 : Option Addr) (c0_1 : Nat) (l0_1 : List Int) (r : Bool) (w : World) (hr0_0 : Kd.C (Kd.slice 3 (Kd.int .i64)) w A0_0 l0_0.length l0_0) (hc0_0 : l0_0.length ≤ c0_0) (hr0_1 : Kd.C (Kd.int .i64) w A0_1 l0_1.length l0_1) (hc0_1 : l0_1.length ≤ c0_1) (h : impl_BooleanOk.f l0_0 l0_1 = some r) :
    Calls Try.prog 15 #[.agg #[.slice A0_0 l0_0.length c0_0,.slice A0_1 l0_1.length c0_1]] w fun e w'=>e= .returned (.bool r)∧Below w.heap.size w w':=by
  obtain⟨k,hF⟩:=told_facts l0_0
  have hu30:=Try.underlying26
  have hu70:=Try.underlying74
  have HF:=Aside0.mk hF
  have HR0:=Aside0.mk hr0_0
  have HC0:=Aside0.mk hc0_0
  have HR1:=Aside0.mk hr0_1
  have HC1:=Aside0.mk hc0_1
  simp only [impl_BooleanOk.f,Option.some.injEq] at h
  clear hr0_0 hc0_0 hr0_1 hc0_1 hF
  cases hL:logicB l0_0 l0_1 with
  | false =>
    rw [hL] at h
    have hr_:false=r:=by simpa using h
    subst hr_
    have HLB:=Aside0.mk hL
    clear h hL
    go_enter Try.func15,Try.ntmps15
    go_wp2_with (first|((with_reducible refine gate_dst (N:=1) rfl ?_);refine box_event ?hg (N:=1) ?hd (cs:= #[.slice A0_0 l0_0.length c0_0,.slice A0_1 l0_1.length c0_1]) (t:=26) ?hr ?_;(case hd=>rfl);(case hg=>rfl);(case hr=>first|(go_simp;done)|(go_simp;rfl));intro gb hg_ w1 hbox hb;have HB:=Aside0.mk hb;have hx0:w1.cell? ⟨gb,0,none⟩=some (.slice A0_0 l0_0.length c0_0):=(blk_cell hbox 0).trans rfl;have hx1:w1.cell? ⟨gb,1,none⟩=some (.slice A0_1 l0_1.length c0_1):=(blk_cell hbox 1).trans rfl;have HX:=Aside0.mk hbox;clear hbox hb hg_)|(go_at_call 70;(with_reducible refine(told_n k _ _ l0_0 _ _ l0_1 _ ?s1 ?s2 ?s3 ?s4 HF.out HLB.out).mono ?_);(case s1=>exact Kd.C_below HR0.out HB.out);(case s2=>exact HC0.out);(case s3=>exact Kd.C_below HR1.out HB.out);(case s4=>exact HC1.out);rintro e w2 ⟨rfl,hb⟩;have HB2:=Aside0.mk (below_step HB.out hb);clear hb hx0 hx1 HX HB))
    go_ret
    exact⟨rfl,zq233⟩
  | true =>
    rw [hL] at h
    have hr_:booB l0_0=r:=by simpa using h
    subst hr_
    have HLB:=Aside0.mk hL
    have HLg:=Aside0.mk (logicB_iff.1 hL)
    clear h hL
    go_enter Try.func15,Try.ntmps15
    go_wp2_with (first|((with_reducible refine gate_dst (N:=1) rfl ?_);refine box_event ?hg (N:=1) ?hd (cs:= #[.slice A0_0 l0_0.length c0_0,.slice A0_1 l0_1.length c0_1]) (t:=26) ?hr ?_;(case hd=>rfl);(case hg=>rfl);(case hr=>first|(go_simp;done)|(go_simp;rfl));intro gb hg_ w1 hbox hb;have HB:=Aside0.mk hb;have hx0:w1.cell? ⟨gb,0,none⟩=some (.slice A0_0 l0_0.length c0_0):=(blk_cell hbox 0).trans rfl;have hx1:w1.cell? ⟨gb,1,none⟩=some (.slice A0_1 l0_1.length c0_1):=(blk_cell hbox 1).trans rfl;have HX:=Aside0.mk hbox;clear hbox hb hg_)|(go_at_call 70;(with_reducible refine(told_y k _ _ l0_0 _ _ l0_1 _ ?s1 ?s2 ?s3 ?s4 HF.out HLB.out).mono ?_);(case s1=>exact Kd.C_below HR0.out HB.out);(case s2=>exact HC0.out);(case s3=>exact Kd.C_below HR1.out HB.out);(case s4=>exact HC1.out);rintro e w2 ⟨g,v,rfl,hv,hge,hb⟩;have HB2:=Aside0.mk (below_step HB.out hb);have HV:=Aside0.mk hv;clear hv hge hb hx0 hx1 HX HB)|(go_at_call 71;(with_reducible refine(every_pure g l0_0 l0_1 v _ HLg.out.small ?sV 72 _ #[.pointer (some ⟨w2.heap.size,0,none⟩)] Try.func72 (by kernel_rfl) rfl (fun a c=>allN l0_0.length fun b=>splitB l0_0 a c b) ?sT).mono ?_);(case sV=>exact HV.out.below (below_alloc (Below.refl _ _) _));(case sT=>exact fun a c ha hc W hW=>boo_c1 g l0_0 l0_1 v W HLg.out ((HV.out.below (below_alloc (Below.refl _ _) _)).below hW) w2.heap.size a c ⟨by omega,by omega⟩ ⟨by omega,by omega⟩ (blk_below (MapKept.heap_alloc w2 _).1 hW));rintro e w3 ⟨rfl,hb⟩;have HB3:=Aside0.mk (below_step (below_step HB2.out (below_alloc (Below.refl _ _) _)) hb);clear hb))
    go_ret
    exact⟨rfl,zq309⟩
end Go.Proofs.Ytcbjpdaogicibaa.Print
end
section
namespace Go.Proofs.Ytcbjpdaogicibaa.Print
open Go.RowKit Go.Proofs.YtcbjpdaogicibaaW.PrintWords Go.Proofs.YtcbjpdaogicibaaW.PrintLast Go.Proofs.YtcbjpdaogicibaaW.PrintMore
open Oml
section
variable {U : List (List Int)} {N : List Int} (L : Logic U N)
include L
theorem splitB_fin (x y z : Fin U.length) : splitB U x.1 y.1 z.1 = true ↔ L.ol.Split x y z := by
  unfold splitB OL.Split
  rw [or_fin L, and_fin L, and_fin L, and_fin L, or_fin L, fin_beq, decide_eq_true_eq]
theorem booB_iff : booB U = true ↔ L.ol.Boolean := by
  unfold booB OL.Boolean
  rw [allN_fin]
  constructor
  · intro h a b c
    exact (splitB_fin L a b c).1 (allN_fin.1 (allN_fin.1 (h a) b) c)
  · intro h a
    exact allN_fin.2 fun b => allN_fin.2 fun c => (splitB_fin L a b c).2 (h a b c)
end
end Go.Proofs.Ytcbjpdaogicibaa.Print
end
section
namespace Go.Proofs.Ytcbjpdaogicibaa.Print
open Go.RowKit Go.Proofs.YtcbjpdaogicibaaW.PrintWords Go.Proofs.YtcbjpdaogicibaaW.PrintLast Go.Proofs.YtcbjpdaogicibaaW.PrintMore
open Oml
section
variable {U : List (List Int)} {N : List Int} (L : Logic U N)
include L
theorem at2_fin (x y : Fin U.length) : (at2 U x.1 y.1 = 1 ↔ L.ol.le x y) ∧ (at2 U x.1 y.1 = 0 ↔ ¬ L.ol.le x y) := by
  have h : L.ol.le x y ↔ at2 U x.1 y.1 = 1 := by
    rw [← leB_fin L]; unfold leB; exact beq_iff_eq
  refine ⟨h.symm, ?_⟩
  rw [h]
  rcases L.bit x.1 y.1 x.2 y.2 with e | e <;> omega
theorem keepB_iff : keepB U N = true ↔ L.ol.Keeps := by
  unfold keepB OL.Keeps
  rw [allN_fin]
  have key : ∀ x y : Fin U.length, keepT U N x.1 y.1 = true ↔ (L.ol.le x y → L.ol.join x (L.ol.meet y (L.ol.neg x)) = y) := fun x y => by
    unfold keepT
    rw [Int.toNat_natCast,Int.toNat_natCast,not_fin L,and_fin L,or_fin L,fin_beq,Bool.or_eq_true,beq_iff_eq,decide_eq_true_eq,(at2_fin L x y).2]
    exact⟨fun h k=>h.resolve_left (fun n=>n k),fun h=>(Classical.em (L.ol.le x y)).elim (fun k=> .inr (h k)) .inl⟩
  constructor
  · intro h x y
    exact(key x y).1 (allN_fin.1 (h x) y)
  · intro h x
    exact allN_fin.2 fun y=>(key x y).2 (h x y)
end
end Go.Proofs.Ytcbjpdaogicibaa.Print
end
section
namespace Go.Proofs.Ytcbjpdaogicibaa.Print
open Go.RowKit Go.Proofs.YtcbjpdaogicibaaW.PrintWords Go.Proofs.YtcbjpdaogicibaaW.PrintLast Go.Proofs.YtcbjpdaogicibaaW.PrintMore
open Oml
def blkS (U : List (List Int)) (N : List Int) : List Nat := blkR U.length fun a b => bothB U N (a : Int) (b : Int)
section
variable {U : List (List Int)} {N : List Int} (L : Logic U N)
include L
theorem withB_fin (x y : Fin U.length) : withB U N x.1 y.1 = true ↔ L.ol.C x y := by
  unfold withB OL.C
  rw [not_fin L, and_fin L, and_fin L, or_fin L, fin_beq, decide_eq_true_eq]
theorem bothB_fin (x y : Fin U.length) : bothB U N x.1 y.1 = true ↔ L.ol.C x y ∧ L.ol.C y x := by
  unfold bothB
  rw [Bool.and_eq_true, withB_fin L, withB_fin L]
theorem both_refl : ∀ a, a < U.length → bothB U N (a : Int) (a : Int) = true := fun a ha => by
  obtain ⟨x, rfl⟩ := fin_of_nat ha
  exact (bothB_fin L x x).2 ⟨OL.C_refl x, OL.C_refl x⟩
theorem both_symm : ∀ a b, a < U.length → b < U.length → bothB U N (a : Int) (b : Int) = true → bothB U N (b : Int) (a : Int) = true := fun a b ha hb h => by
  obtain⟨x,rfl⟩:=fin_of_nat ha
  obtain⟨y,rfl⟩:=fin_of_nat hb
  have:=(bothB_fin L x y).1 h
  exact(bothB_fin L y x).2 ⟨this.2,this.1⟩
theorem one_block : (blkS U N).length = 1 ↔ ∀ x y, L.ol.C x y := by
  unfold blkS
  rw [blkR_one L.pos (both_refl L) (both_symm L)]
  constructor
  · intro h x y
    exact((bothB_fin L x y).1 (h x.1 y.1 x.2 y.2)).1
  · intro h a b ha hb
    obtain⟨x,rfl⟩:=fin_of_nat ha
    obtain⟨y,rfl⟩:=fin_of_nat hb
    exact(bothB_fin L x y).2 ⟨h x y,h y x⟩
theorem boole_blocks : booB U = (keepB U N && decide ((blkS U N).length = 1)) := by
  rw [Bool.eq_iff_iff, booB_iff L, Bool.and_eq_true, decide_eq_true_eq, keepB_iff L, one_block L]
  exact OL.boolean_iff
end
end Go.Proofs.Ytcbjpdaogicibaa.Print
end
section
namespace Go.Proofs.Ytcbjpdaogicibaa.Print
open Go.RowKit Go.Proofs.YtcbjpdaogicibaaW.PrintWords Go.Proofs.YtcbjpdaogicibaaW.PrintLast Go.Proofs.YtcbjpdaogicibaaW.PrintMore
def spec_DrawBooleanOk.f (k : Nat) (l0 : List Int) : Option ((List (List Int)) × List Int) := (spec_l20Open.f l0).bind fun bt387 => ((spec_l20Logic.f k bt387.1 bt387.2 9).bind fun bt390 => (some (bt390.1, bt390.2.1)))
set_option maxHeartbeats 8000000 in
set_option maxRecDepth 100000 in
theorem spec_DrawBooleanOk.calls (k : Nat) (A0 : Option Addr) (c0 : Nat) (l0 : List Int) (r1 : List (List Int)) (r2 : List Int) (w : World) (hr0 : Kd.C (Kd.int .u8) w A0 l0.length l0) (hc0 : l0.length ≤ c0) (h : spec_DrawBooleanOk.f k l0 = some (r1, r2)) :
  Calls Try.prog 14 #[.slice A0 l0.length c0] w fun e w' => ∃ v0_ v1_ : Value, e = .returned (.agg #[v0_, v1_]) ∧ Kd.S (Kd.slice 3 (Kd.int .i64)) 24 w' w.heap.size (fun k_ => some k_ ≠ (v1_ : Value).ownBlock) v0_ r1 ∧ Kd.Q (Kd.int .i64) 3 w' w.heap.size (fun _ => True) v1_ r2 ∧ Below w.heap.size w w' := by
 have hu26:=Try.underlying26;have c7:=zqm hr0;have c6:=zqm hc0;clear hr0 hc0;have HB:=zqm (Below.refl w.heap.size w);have H:((spec_l20Open.f l0).bind fun b7=>((spec_l20Logic.f k b7.1 b7.2 9).bind fun a4=>(some (a4.1,a4.2.1))))=some (r1,r2):=h;clear h;replace H:=Option.bind_eq_some_iff.mp H;obtain⟨⟨b2,b3⟩,b9,H⟩:=H;replace H:((spec_l20Logic.f k b2 b3 9).bind fun a4=>(some (a4.1,a4.2.1)))=some (r1,r2):=H;have A2:=zqm b9;clear b9;replace H:=Option.bind_eq_some_iff.mp H;obtain⟨⟨a5,a8,c5⟩,c1,H⟩:=H;replace H:(some (a5,a8))=some (r1,r2):=H;have A3:=zqm c1;clear c1;simp only [Option.some.injEq,Prod.mk.injEq] at H;obtain⟨rfl,rfl⟩:=H
 go_enter Try.func14,Try.ntmps14
 go_wp2_with (first|((with_reducible refine gate_dst (N:=2) rfl ?_);refine box_event ?hg (N:=2) ?hd (cs:= #[.slice none 0 0,.slice none 0 0]) (t:=26) ?hr ?_;(case hd=>rfl);(case hg=>rfl);(case hr=>first|(go_simp;done)|(go_simp;rfl));intro a1 hg w4 hbox hb;have a9:=zqm (below_step zq0 hb);have a0:=zqm (hbox);have d3:=zqm ((by rw [hg];exact(below_size zq0):w.heap.size≤a1));have a3:=zqm ((by rw [hg];exact(below_size zq0):w.heap.size≤a1));clear HB;have HB:=a9;clear a9 hb hbox hg)|((with_reducible refine gate_callee (f:=69) rfl ?_);refine goesL_ (some 4) rfl rfl Try.func69 zqk rfl #[.slice A0 l0.length c0] rfl zq1 ?_;(with_reducible refine(spec_l20Open.calls _ _ l0 b2 b3 w _ ?side1 ?side2 ?side3 A2.out).mono ?_);(case side1=> exact zq53);(case side2=>exact c7.out);(case side3=>exact c6.out);rintro e w5 ⟨g389,rfl,hi,hb,hb2⟩;refine⟨_,rfl,?_⟩;have a9:=zqm (blk_below (g:=a1) (o:= .cells #[.slice none 0 0,.slice none 0 0] 26 (0,0)) zq2 hb2);replace HB:=zqm (hb);have a2:=zqm (hi);have a7:=zqm (IsS110.ne_blk hi (blk_below (g:=a1) (o:= .cells #[.slice none 0 0,.slice none 0 0] 26 (0,0)) zq2 hb2) (by decide));have a6:=zqm (Ne.symm (IsS110.ne_blk hi (blk_below (g:=a1) (o:= .cells #[.slice none 0 0,.slice none 0 0] 26 (0,0)) zq2 hb2) (by decide)));clear a0;have a0:=a9;clear a9 hb hb2 hi)|((with_reducible refine gate_callee (f:=68) rfl ?_);refine goesL_ (some 5) rfl rfl Try.func68 zqk rfl #[.pointer (some ⟨g389,0,none⟩),.int .i64 9] rfl zq1 ?_;(with_reducible refine(spec_l20Logic.calls k g389 b2 b3 9 a5 a8 c5 w _ ?side1 ?side2 A3.out).mono ?_);(case side1=> exact zq270);(case side2=> exact zq125);rintro e w6 ⟨d6,d7,rfl,c2,c3,hi,hb,hk⟩;refine⟨_,rfl,?_⟩;replace a0:=zqm (KeepBut.blk hk (g':=a1) (o:= .cells #[.slice none 0 0,.slice none 0 0] 26 (0,0)) zq2 a6.out (by simp));have b5:=zqm (Kd.S_lower c2 (below_size zq125));have b6:=zqm (Kd.Q_lower c3 (below_size zq125));replace HB:=zqm (hb);replace a2:=zqm (hi);clear hb hk hi c2 c3;obtain⟨b4,b8,c8⟩:=Kd.S_slice b5.out;subst c8;have d4:=a6.out;have d5:=a7.out;have c9:w6.cell? ⟨a1,0,none⟩=some (.slice none 0 0):=(blk_cell a0.out 0).trans rfl;have d0:w6.cell? ⟨a1,1,none⟩=some (.slice none 0 0):=(blk_cell a0.out 1).trans rfl;have d1:=blk_frozen a0.out 0;have d2:=blk_frozen a0.out 1;obtain⟨b0,b1,c4,_⟩:=Kd.Q_slice b6.out;subst c4))
 refine bodyPost_ret (results_cell_row rfl _ _ a1 26 #[.slice b4 a5.length b8,.slice b0 a8.length b1] (0,0) _ rfl (by(with_reducible repeat(first|refine blk_drewN ?_ _|refine blk_drew ?_|refine blk_alloc ?_ _));refine blk_put (cs:= #[.slice b4 a5.length b8,.slice none 0 0]) ?_ 1 _ rfl;(with_reducible repeat(first|refine blk_drewN ?_ _|refine blk_drew ?_|refine blk_alloc ?_ _));refine blk_put (cs:= #[.slice none 0 0,.slice none 0 0]) ?_ 0 _ rfl;(with_reducible repeat(first|refine blk_drewN ?_ _|refine blk_drew ?_|refine blk_alloc ?_ _));exact a0.out) Try.underlying26 rfl zqk) rfl ?_;exact⟨_,_,zq11,by(with_reducible repeat(first|apply Kd.S_alloc|apply Kd.S_drewN|apply Kd.S_drew));exact Kd.S_mono (Kd.S_far (p:=⟨a1,1,none⟩) (Kd.S_far (p:=⟨a1,0,none⟩) (Kd.S_types b5.out a0.out (by decide)) (fun _ hk=>hk.2) (.slice b4 a5.length b8)) (fun _ hk=>hk.2) (.slice b0 a8.length b1)) (fun _ hk=>hk.1),by(with_reducible repeat(first|apply Kd.Q_alloc|apply Kd.Q_drewN|apply Kd.Q_drew));exact Kd.Q_mono (Kd.Q_far (p:=⟨a1,1,none⟩) (Kd.Q_far (p:=⟨a1,0,none⟩) (Kd.Q_types b6.out a0.out (by decide)) (fun _ hk=>hk.2) (.slice b4 a5.length b8)) (fun _ hk=>hk.2) (.slice b0 a8.length b1)) (fun _ hk=>trivial),zq125⟩
def spec_l6Split.f (k : Nat) (l0_0 : List (List Int)) (l0_1 : List Int) (a1 : Int) (a2 : Int) (a3 : Int) : Option (Bool) := (spec_l1Join.f k l0_0 a2 a3).bind fun t508 => ((spec_l1Meet.f k l0_0 a1 t508).bind fun t509 => ((spec_l1Meet.f k l0_0 a1 a2).bind fun t510 => ((spec_l1Meet.f k l0_0 a1 a3).bind fun t511 => ((spec_l1Join.f k l0_0 t510 t511).bind fun t512 => (some (t509 == t512))))))
set_option maxHeartbeats 8000000 in
set_option maxRecDepth 100000 in
theorem spec_l6Split.calls (k : Nat) (A0_0 : Option Addr) (c0_0 : Nat) (l0_0 : List (List Int)) (A0_1 : Option Addr) (c0_1 : Nat) (l0_1 : List Int) (a1 : Int) (a2 : Int) (a3 : Int) (r : Bool) (w : World) (hr0_0 : Kd.C (Kd.slice 3 (Kd.int .i64)) w A0_0 l0_0.length l0_0) (hc0_0 : l0_0.length ≤ c0_0) (hr0_1 : Kd.C (Kd.int .i64) w A0_1 l0_1.length l0_1) (hc0_1 : l0_1.length ≤ c0_1) (h : spec_l6Split.f k l0_0 l0_1 a1 a2 a3 = some r) :
  Calls Try.prog 76 #[.agg #[.slice A0_0 l0_0.length c0_0, .slice A0_1 l0_1.length c0_1], .int .i64 a1, .int .i64 a2, .int .i64 a3] w fun e w' => e = .returned (.bool r) ∧ Below w.heap.size w w' := by
 have hu26:=Try.underlying26;have a5:=zqm hr0_0;have a4:=zqm hc0_0;clear hr0_0 hc0_0;have c6:=zqm hr0_1;have c5:=zqm hc0_1;clear hr0_1 hc0_1;have HB:=zqm (Below.refl w.heap.size w);have H:((spec_l1Join.f k l0_0 a2 a3).bind fun b2=>((spec_l1Meet.f k l0_0 a1 b2).bind fun b1=>((spec_l1Meet.f k l0_0 a1 a2).bind fun a9=>((spec_l1Meet.f k l0_0 a1 a3).bind fun a8=>((spec_l1Join.f k l0_0 a9 a8).bind fun b0=>(some (b1==b0)))))))=some r:=h;clear h;replace H:=Option.bind_eq_some_iff.mp H;obtain⟨b2,c0,H⟩:=H;replace H:((spec_l1Meet.f k l0_0 a1 b2).bind fun b1=>((spec_l1Meet.f k l0_0 a1 a2).bind fun a9=>((spec_l1Meet.f k l0_0 a1 a3).bind fun a8=>((spec_l1Join.f k l0_0 a9 a8).bind fun b0=>(some (b1==b0))))))=some r:=H;have A5:=zqm c0;clear c0;replace H:=Option.bind_eq_some_iff.mp H;obtain⟨b1,c1,H⟩:=H;replace H:((spec_l1Meet.f k l0_0 a1 a2).bind fun a9=>((spec_l1Meet.f k l0_0 a1 a3).bind fun a8=>((spec_l1Join.f k l0_0 a9 a8).bind fun b0=>(some (b1==b0)))))=some r:=H;have A6:=zqm c1;clear c1;replace H:=Option.bind_eq_some_iff.mp H;obtain⟨a9,c2,H⟩:=H;replace H:((spec_l1Meet.f k l0_0 a1 a3).bind fun a8=>((spec_l1Join.f k l0_0 a9 a8).bind fun b0=>(some (b1==b0))))=some r:=H;have A7:=zqm c2;clear c2;replace H:=Option.bind_eq_some_iff.mp H;obtain⟨a8,c3,H⟩:=H;replace H:((spec_l1Join.f k l0_0 a9 a8).bind fun b0=>(some (b1==b0)))=some r:=H;have A8:=zqm c3;clear c3;replace H:=Option.bind_eq_some_iff.mp H;obtain⟨b0,c4,H⟩:=H;replace H:(some (b1==b0))=some r:=H;have A9:=zqm c4;clear c4;obtain rfl:=Option.some.inj H
 go_enter Try.func76,Try.ntmps76
 go_wp2_with (first|((with_reducible refine gate_dst (N:=4) rfl ?_);refine box_event ?hg (N:=4) ?hd (cs:= #[.slice A0_0 l0_0.length c0_0,.slice A0_1 l0_1.length c0_1]) (t:=26) ?hr ?_;(case hd=>rfl);(case hg=>rfl);(case hr=>first|(go_simp;done)|(go_simp;rfl));intro a7 hg b4 hbox hb;have b3:=zqm (below_step zq0 hb);have a6:=zqm (hbox);have b9:=zqm ((by rw [hg];exact(below_size zq0):w.heap.size≤a7));have a0:=zqm ((by rw [hg];exact(below_size zq0):w.heap.size≤a7));clear HB;have HB:=b3;clear b3 hb hbox hg;have b5:b4.cell? ⟨a7,0,none⟩=some (.slice A0_0 l0_0.length c0_0):=(blk_cell a6.out 0).trans rfl;have b6:b4.cell? ⟨a7,1,none⟩=some (.slice A0_1 l0_1.length c0_1):=(blk_cell a6.out 1).trans rfl;have b7:=blk_frozen a6.out 0;have b8:=blk_frozen a6.out 1)|(go_at_call 94;(with_reducible refine(spec_l1Join.calls k _ _ l0_0 a2 a3 b2 _ ?side1 ?side2 A5.out).mono ?_);(case side1=> exact zq35);(case side2=>exact a4.out);rintro e w' ⟨rfl,⟨nd,rfl⟩⟩;(try first|exact⟨rfl,_,World.drewN_drewN _ _ _⟩|exact⟨rfl,_,Eq.trans (World.drewN_drewN _ _ _) (congrArg (World.drewN _) (Nat.add_assoc _ _ _))⟩))|(go_at_call 80;(with_reducible refine(spec_l1Meet.calls k _ _ l0_0 a1 b2 b1 _ ?side1 ?side2 A6.out).mono ?_);(case side1=> exact zq27);(case side2=>exact a4.out);rintro e w' ⟨rfl,⟨nd,rfl⟩⟩;(try first|exact⟨rfl,_,World.drewN_drewN _ _ _⟩|exact⟨rfl,_,Eq.trans (World.drewN_drewN _ _ _) (congrArg (World.drewN _) (Nat.add_assoc _ _ _))⟩))|(go_at_call 80;(with_reducible refine(spec_l1Meet.calls k _ _ l0_0 a1 a2 a9 _ ?side1 ?side2 A7.out).mono ?_);(case side1=> exact zq27);(case side2=>exact a4.out);rintro e w' ⟨rfl,⟨nd,rfl⟩⟩;(try first|exact⟨rfl,_,World.drewN_drewN _ _ _⟩|exact⟨rfl,_,Eq.trans (World.drewN_drewN _ _ _) (congrArg (World.drewN _) (Nat.add_assoc _ _ _))⟩))|(go_at_call 80;(with_reducible refine(spec_l1Meet.calls k _ _ l0_0 a1 a3 a8 _ ?side1 ?side2 A8.out).mono ?_);(case side1=> exact zq27);(case side2=>exact a4.out);rintro e w' ⟨rfl,⟨nd,rfl⟩⟩;(try first|exact⟨rfl,_,World.drewN_drewN _ _ _⟩|exact⟨rfl,_,Eq.trans (World.drewN_drewN _ _ _) (congrArg (World.drewN _) (Nat.add_assoc _ _ _))⟩))|(go_at_call 94;(with_reducible refine(spec_l1Join.calls k _ _ l0_0 a9 a8 b0 _ ?side1 ?side2 A9.out).mono ?_);(case side1=> exact zq27);(case side2=>exact a4.out);rintro e w' ⟨rfl,⟨nd,rfl⟩⟩;(try first|exact⟨rfl,_,World.drewN_drewN _ _ _⟩|exact⟨rfl,_,Eq.trans (World.drewN_drewN _ _ _) (congrArg (World.drewN _) (Nat.add_assoc _ _ _))⟩)))
 repeat(go_quiet (first|((with_reducible refine gate_dst (N:=4) rfl ?_);refine box_event ?hg (N:=4) ?hd (cs:= #[.slice A0_0 l0_0.length c0_0,.slice A0_1 l0_1.length c0_1]) (t:=26) ?hr ?_;(case hd=>rfl);(case hg=>rfl);(case hr=>first|(go_simp;done)|(go_simp;rfl));intro a7 hg b4 hbox hb;have b3:=zqm (below_step zq0 hb);have a6:=zqm (hbox);have b9:=zqm ((by rw [hg];exact(below_size zq0):w.heap.size≤a7));have a0:=zqm ((by rw [hg];exact(below_size zq0):w.heap.size≤a7));clear HB;have HB:=b3;clear b3 hb hbox hg;have b5:b4.cell? ⟨a7,0,none⟩=some (.slice A0_0 l0_0.length c0_0):=(blk_cell a6.out 0).trans rfl;have b6:b4.cell? ⟨a7,1,none⟩=some (.slice A0_1 l0_1.length c0_1):=(blk_cell a6.out 1).trans rfl;have b7:=blk_frozen a6.out 0;have b8:=blk_frozen a6.out 1)|(go_at_call 94;(with_reducible refine(spec_l1Join.calls k _ _ l0_0 a2 a3 b2 _ ?side1 ?side2 A5.out).mono ?_);(case side1=> exact zq35);(case side2=>exact a4.out);rintro e w' ⟨rfl,⟨nd,rfl⟩⟩;(try first|exact⟨rfl,_,World.drewN_drewN _ _ _⟩|exact⟨rfl,_,Eq.trans (World.drewN_drewN _ _ _) (congrArg (World.drewN _) (Nat.add_assoc _ _ _))⟩))|(go_at_call 80;(with_reducible refine(spec_l1Meet.calls k _ _ l0_0 a1 b2 b1 _ ?side1 ?side2 A6.out).mono ?_);(case side1=> exact zq27);(case side2=>exact a4.out);rintro e w' ⟨rfl,⟨nd,rfl⟩⟩;(try first|exact⟨rfl,_,World.drewN_drewN _ _ _⟩|exact⟨rfl,_,Eq.trans (World.drewN_drewN _ _ _) (congrArg (World.drewN _) (Nat.add_assoc _ _ _))⟩))|(go_at_call 80;(with_reducible refine(spec_l1Meet.calls k _ _ l0_0 a1 a2 a9 _ ?side1 ?side2 A7.out).mono ?_);(case side1=> exact zq27);(case side2=>exact a4.out);rintro e w' ⟨rfl,⟨nd,rfl⟩⟩;(try first|exact⟨rfl,_,World.drewN_drewN _ _ _⟩|exact⟨rfl,_,Eq.trans (World.drewN_drewN _ _ _) (congrArg (World.drewN _) (Nat.add_assoc _ _ _))⟩))|(go_at_call 80;(with_reducible refine(spec_l1Meet.calls k _ _ l0_0 a1 a3 a8 _ ?side1 ?side2 A8.out).mono ?_);(case side1=> exact zq27);(case side2=>exact a4.out);rintro e w' ⟨rfl,⟨nd,rfl⟩⟩;(try first|exact⟨rfl,_,World.drewN_drewN _ _ _⟩|exact⟨rfl,_,Eq.trans (World.drewN_drewN _ _ _) (congrArg (World.drewN _) (Nat.add_assoc _ _ _))⟩))|(go_at_call 94;(with_reducible refine(spec_l1Join.calls k _ _ l0_0 a9 a8 b0 _ ?side1 ?side2 A9.out).mono ?_);(case side1=> exact zq27);(case side2=>exact a4.out);rintro e w' ⟨rfl,⟨nd,rfl⟩⟩;(try first|exact⟨rfl,_,World.drewN_drewN _ _ _⟩|exact⟨rfl,_,Eq.trans (World.drewN_drewN _ _ _) (congrArg (World.drewN _) (Nat.add_assoc _ _ _))⟩)));try go_wp2_with (first|((with_reducible refine gate_dst (N:=4) rfl ?_);refine box_event ?hg (N:=4) ?hd (cs:= #[.slice A0_0 l0_0.length c0_0,.slice A0_1 l0_1.length c0_1]) (t:=26) ?hr ?_;(case hd=>rfl);(case hg=>rfl);(case hr=>first|(go_simp;done)|(go_simp;rfl));intro a7 hg b4 hbox hb;have b3:=zqm (below_step zq0 hb);have a6:=zqm (hbox);have b9:=zqm ((by rw [hg];exact(below_size zq0):w.heap.size≤a7));have a0:=zqm ((by rw [hg];exact(below_size zq0):w.heap.size≤a7));clear HB;have HB:=b3;clear b3 hb hbox hg;have b5:b4.cell? ⟨a7,0,none⟩=some (.slice A0_0 l0_0.length c0_0):=(blk_cell a6.out 0).trans rfl;have b6:b4.cell? ⟨a7,1,none⟩=some (.slice A0_1 l0_1.length c0_1):=(blk_cell a6.out 1).trans rfl;have b7:=blk_frozen a6.out 0;have b8:=blk_frozen a6.out 1)|(go_at_call 94;(with_reducible refine(spec_l1Join.calls k _ _ l0_0 a2 a3 b2 _ ?side1 ?side2 A5.out).mono ?_);(case side1=> exact zq35);(case side2=>exact a4.out);rintro e w' ⟨rfl,⟨nd,rfl⟩⟩;(try first|exact⟨rfl,_,World.drewN_drewN _ _ _⟩|exact⟨rfl,_,Eq.trans (World.drewN_drewN _ _ _) (congrArg (World.drewN _) (Nat.add_assoc _ _ _))⟩))|(go_at_call 80;(with_reducible refine(spec_l1Meet.calls k _ _ l0_0 a1 b2 b1 _ ?side1 ?side2 A6.out).mono ?_);(case side1=> exact zq27);(case side2=>exact a4.out);rintro e w' ⟨rfl,⟨nd,rfl⟩⟩;(try first|exact⟨rfl,_,World.drewN_drewN _ _ _⟩|exact⟨rfl,_,Eq.trans (World.drewN_drewN _ _ _) (congrArg (World.drewN _) (Nat.add_assoc _ _ _))⟩))|(go_at_call 80;(with_reducible refine(spec_l1Meet.calls k _ _ l0_0 a1 a2 a9 _ ?side1 ?side2 A7.out).mono ?_);(case side1=> exact zq27);(case side2=>exact a4.out);rintro e w' ⟨rfl,⟨nd,rfl⟩⟩;(try first|exact⟨rfl,_,World.drewN_drewN _ _ _⟩|exact⟨rfl,_,Eq.trans (World.drewN_drewN _ _ _) (congrArg (World.drewN _) (Nat.add_assoc _ _ _))⟩))|(go_at_call 80;(with_reducible refine(spec_l1Meet.calls k _ _ l0_0 a1 a3 a8 _ ?side1 ?side2 A8.out).mono ?_);(case side1=> exact zq27);(case side2=>exact a4.out);rintro e w' ⟨rfl,⟨nd,rfl⟩⟩;(try first|exact⟨rfl,_,World.drewN_drewN _ _ _⟩|exact⟨rfl,_,Eq.trans (World.drewN_drewN _ _ _) (congrArg (World.drewN _) (Nat.add_assoc _ _ _))⟩))|(go_at_call 94;(with_reducible refine(spec_l1Join.calls k _ _ l0_0 a9 a8 b0 _ ?side1 ?side2 A9.out).mono ?_);(case side1=> exact zq27);(case side2=>exact a4.out);rintro e w' ⟨rfl,⟨nd,rfl⟩⟩;(try first|exact⟨rfl,_,World.drewN_drewN _ _ _⟩|exact⟨rfl,_,Eq.trans (World.drewN_drewN _ _ _) (congrArg (World.drewN _) (Nat.add_assoc _ _ _))⟩))))
 go_ret
 exact⟨zq11,zq57⟩
def spec_BooleanOk.l0 : Nat → Int → Int → List (List Int) → List Int → Option (Bool)
 | 0, _, _, _, _ => none
 | k + 1, x3, x4, x514000, x514001 => if x4 < (wrap64 ((wrap64 (x3 * x3)) * x3)) then (if x3 = 0 then (none) else ((spec_l6Split.f k x514000 x514001 (wrap64 (Int.tdiv (wrap64 (Int.tdiv x4 x3)) x3)) (Int.tmod (wrap64 (Int.tdiv x4 x3)) x3) (Int.tmod x4 x3)).bind fun t515 => (if t515 = true then (spec_BooleanOk.l0 k x3 (wrap64 (x4 + 1)) x514000 x514001) else (some false)))) else (some true)
def spec_BooleanOk.f (k : Nat) (l0_0 : List (List Int)) (l0_1 : List Int) : Option (Bool) := (spec_LogicOk.f k l0_0 l0_1).bind fun t514 => (if t514 = true then (spec_BooleanOk.l0 k (l0_1.length : Int) 0 l0_0 l0_1) else (some false))
def spec_BooleanOk.T7 : Bool × List (List Nat × List Nat) := (true, [([], []), ([], []), ([], []), ([1, 2], [1, 2]), ([], []), ([3, 4], [3, 4]), ([], []), ([], []), ([6, 7], [6, 7]), ([], []), ([8, 9], [8, 9]), ([], []), ([], []), ([11, 12], [11, 12]), ([0, 5, 10, 13], [0, 5, 10, 13]), ([14], [14])])
def spec_BooleanOk.B7 : List Nat := [0, 0, 0, 6, 0, 30, 0, 0, 192, 0, 960, 0, 0, 6144, 16383, 32767]
theorem spec_BooleanOk.tab7 : rtab .any (opsOf Try.f16 7) = spec_BooleanOk.T7 := by kernel_rfl
theorem spec_BooleanOk.bits7 : waitsOk spec_BooleanOk.T7.2 spec_BooleanOk.B7 = true := by kernel_rfl
set_option maxHeartbeats 8000000 in
set_option maxRecDepth 100000 in
theorem spec_BooleanOk.calls (k : Nat) (A0_0 : Option Addr) (c0_0 : Nat) (l0_0 : List (List Int)) (A0_1 : Option Addr) (c0_1 : Nat) (l0_1 : List Int) (r : Bool) (w : World) (hr0_0 : Kd.C (Kd.slice 3 (Kd.int .i64)) w A0_0 l0_0.length l0_0) (hc0_0 : l0_0.length ≤ c0_0) (hr0_1 : Kd.C (Kd.int .i64) w A0_1 l0_1.length l0_1) (hc0_1 : l0_1.length ≤ c0_1) (h : spec_BooleanOk.f k l0_0 l0_1 = some r) :
  Calls Try.prog 16 #[.agg #[.slice A0_0 l0_0.length c0_0, .slice A0_1 l0_1.length c0_1]] w fun e w' => e = .returned (.bool r) ∧ Below w.heap.size w w' := by
 have hu26:=Try.underlying26;have a6:=zqm hr0_0;have a4:=zqm hc0_0;clear hr0_0 hc0_0;have a7:=zqm hr0_1;have a5:=zqm hc0_1;clear hr0_1 hc0_1;have HB:=zqm (Below.refl w.heap.size w);have H:((spec_LogicOk.f k l0_0 l0_1).bind fun a8=>(if a8=true then(spec_BooleanOk.l0 k (l0_1.length:Int) 0 l0_0 l0_1) else(some false)))=some r:=h;clear h;replace H:=Option.bind_eq_some_iff.mp H;obtain⟨a8,b7,H⟩:=H;replace H:(if a8=true then(spec_BooleanOk.l0 k (l0_1.length:Int) 0 l0_0 l0_1) else(some false))=some r:=H;have A2:=zqm b7;clear b7
 by_cases c3:a8=true
 ·subst c3;(have H1:(spec_BooleanOk.l0 k (l0_1.length:Int) 0 l0_0 l0_1)=some r:=by rw [if_pos rfl] at H;exact H);clear H;have H:=H1;clear H1;have H':=zqm H;clear H
  go_enter Try.func16,Try.ntmps16
  go_wp2_with (first|((with_reducible refine gate_dst (N:=1) rfl ?_);refine box_event ?hg (N:=1) ?hd (cs:= #[.slice A0_0 l0_0.length c0_0,.slice A0_1 l0_1.length c0_1]) (t:=26) ?hr ?_;(case hd=>rfl);(case hg=>rfl);(case hr=>first|(go_simp;done)|(go_simp;rfl));intro a1 hg w4 hbox hb;have a9:=zqm (below_step zq0 hb);have a0:=zqm (hbox);have b6:=zqm ((by rw [hg];exact(below_size zq0):w.heap.size≤a1));have a3:=zqm ((by rw [hg];exact(below_size zq0):w.heap.size≤a1));clear HB;have HB:=a9;clear a9 hb hbox hg;have b1:w4.cell? ⟨a1,0,none⟩=some (.slice A0_0 l0_0.length c0_0):=(blk_cell a0.out 0).trans rfl;have b2:w4.cell? ⟨a1,1,none⟩=some (.slice A0_1 l0_1.length c0_1):=(blk_cell a0.out 1).trans rfl;have b3:=blk_frozen a0.out 0;have b4:=blk_frozen a0.out 1)|((with_reducible refine gate_callee (f:=17) rfl ?_);refine goesL_ (some 9) rfl rfl Try.func17 zqk rfl #[.agg #[.slice A0_0 l0_0.length c0_0,.slice A0_1 l0_1.length c0_1]] rfl zq1 ?_;(with_reducible refine(spec_LogicOk.calls k _ _ l0_0 _ _ l0_1 true _ ?side1 ?side2 ?side3 ?side4 A2.out).mono ?_);(case side1=> exact zq42);(case side2=>exact a4.out);(case side3=> exact zq87);(case side4=>exact a5.out);rintro e w6 ⟨rfl,hb⟩;refine⟨_,rfl,?_⟩;replace a0:=zqm (blk_below (g:=a1) (o:= .cells #[.slice A0_0 l0_0.length c0_0,.slice A0_1 l0_1.length c0_1] 26 (0,0)) zq2 hb);replace HB:=zqm (below_step zq53 hb);clear hb))
  go_loopg [4] k (fun kq v4 w'=> ∃(a2:Int),v4= .int .i64 a2∧Aside0 (spec_BooleanOk.l0 kq (l0_1.length:Int) a2 l0_0 l0_1=some r)∧Aside0 (kq≤k)∧Aside0 (w'.heap[a1]? =some (.cells #[(.slice A0_0 l0_0.length c0_0),(.slice A0_1 l0_1.length c0_1)] 26 (0,0)))∧Aside0 (Below w.heap.size w w'))
  case atStart=>exact⟨(0),(by first|rfl|(simp;done)|(simp [*];done)),H',⟨Nat.le_refl _⟩,⟨zq2⟩,⟨zq53⟩⟩
  case round=>
   clear H';(try clear c1);(try clear p2);(try clear c3);(try clear b1);(try clear b2);(try clear b3);(try clear b4);obtain⟨a2,rfl,HA,b9,a0,HB⟩:=hrel
   cases gk with
   |zero=>exact absurd HA.out (by simp [spec_BooleanOk.l0])
   |succ k1=>
    have H:=HA.out;clear HA;simp only [spec_BooleanOk.l0] at H
    by_cases c7:a2<(wrap64 ((wrap64 ((l0_1.length:Int)*(l0_1.length:Int)))*(l0_1.length:Int)))
    ·rw [if_pos c7] at H;have c2:decide (a2<(wrap64 ((wrap64 ((l0_1.length:Int)*(l0_1.length:Int)))*(l0_1.length:Int))))=true:=decide_eq_true c7;clear c7
     by_cases c8:(l0_1.length:Int)=0
     ·rw [if_pos c8] at H;exact absurd H (by simp)
     ·rw [if_neg c8] at H;have d0:((l0_1.length:Int)==0)=false:=beq_eq_false_iff_ne.mpr c8;have d1:((l0_1.length:Int) !=0)=true:=bne_iff_ne.mpr c8;have d2: ¬(l0_1= []):=fun h_=>c8 (by rw [h_];rfl);replace H:=Option.bind_eq_some_iff.mp H;obtain⟨b5,b8,H⟩:=H;replace H:(if b5=true then(spec_BooleanOk.l0 k1 (l0_1.length:Int) (wrap64 (a2+1)) l0_0 l0_1) else(some false))=some r:=H;have A9:=zqm b8;clear b8
      by_cases b0:b5=true
      ·subst b0;(have H1:(spec_BooleanOk.l0 k1 (l0_1.length:Int) (wrap64 (a2+1)) l0_0 l0_1)=some r:=by rw [if_pos rfl] at H;exact H);clear H;have H:=H1;clear H1;have H':=zqm H;clear H;(try go_wp2);replace a0:=zqm (blk_drew a0.out);replace HB:=zqm (below_drew1 HB.out);refine start_ (n:=16) (S:=fun w'=>w'.cell? ⟨a1,0,none⟩=some (.slice A0_0 l0_0.length c0_0)∧w'.cell? ⟨a1,1,none⟩=some (.slice A0_1 l0_1.length c0_1)) (ds:= []) (zqb 16 0) zqk rfl rfl ⟨(blk_cell a0.out 0).trans rfl,(blk_cell a0.out 1).trans rfl⟩ (fun hHeld=>?_);refine with_tabW spec_BooleanOk.tab7 spec_BooleanOk.bits7 (fun HT_ HW_=>?_);generalize wr.drew=d3 at a0 HB hHeld ⊢;refine pure_ (i:=1) (N:=some 21) (v:=?_) (a':=?_) (zqb 16 2) rfl rfl (any_of HT_.out zqk) (fun _ _ _ h=>h) (Or.inl ⟨by rfl,?_⟩) ?_ ?_;rotate_left
       ·exact zqt
       rotate_left
       ·exact zqs
       refine pure_ (i:=2) (N:=some 22) (v:=?_) (a':=?_) (zqb 16 6) rfl rfl (any_of HT_.out zqk) (fun _ _ _ h=>h) (Or.inl ⟨by rfl,?_⟩) ?_ ?_;rotate_left
       ·exact zqt
       rotate_left
       ·exact zqs
       refine pure_ (i:=3) (N:=some 23) (v:=?_) (a':=?_) (zqb 16 14) rfl rfl (any_of HT_.out zqk) (fun _ _ _ h=>h) (Or.inl ⟨by rfl,?_⟩) ?_ ?_;rotate_left
       ·exact zqt
       rotate_left
       ·exact zqs
       refine pure_ (i:=4) (N:=some 24) (v:=?_) (a':=?_) (zqb 16 30) rfl rfl (any_of HT_.out zqk) (fun _ _ _ h=>h) (Or.inl ⟨by rfl,?_⟩) ?_ ?_;rotate_left
       ·exact zqt
       rotate_left
       ·exact zqs
       refine pure_ (i:=5) (N:=some 25) (v:=?_) (a':=?_) (zqb 16 62) rfl rfl (any_of HT_.out zqk) (fun _ _ _ h=>h) (Or.inl ⟨by rfl,?_⟩) ?_ ?_;rotate_left
       ·exact zqt
       rotate_left
       ·exact zqs
       refine pure_ (i:=6) (N:=some 26) (v:=?_) (a':=?_) (zqb 16 126) rfl rfl (any_of HT_.out zqk) (fun _ _ _ h=>h) (Or.inl ⟨by rfl,?_⟩) ?_ ?_;rotate_left
       ·exact zqt
       rotate_left
       ·exact zqs
       refine pure_ (i:=7) (N:=some 27) (v:=?_) (a':=?_) (zqb 16 254) rfl rfl (any_of HT_.out zqk) (fun _ _ _ h=>h) (Or.inl ⟨by rfl,?_⟩) ?_ ?_;rotate_left
       ·exact zqt
       rotate_left
       ·exact zqs
       refine pure_ (i:=8) (N:=some 28) (v:=?_) (a':=?_) (zqb 16 510) rfl rfl (any_of HT_.out zqk) (fun _ _ _ h=>h) (Or.inl ⟨by rfl,?_⟩) ?_ ?_;rotate_left
       ·exact zqt
       rotate_left
       ·exact zqs
       refine pure_ (i:=9) (N:=some 29) (v:=?_) (a':=?_) (zqb 16 1022) rfl rfl (any_of HT_.out zqk) (fun _ _ _ h=>h) (Or.inl ⟨by rfl,?_⟩) ?_ ?_;rotate_left
       ·exact zqt
       rotate_left
       ·exact zqs
       refine pure_ (i:=10) (N:=some 30) (v:=?_) (a':=?_) (zqb 16 2046) rfl rfl (any_of HT_.out zqk) (fun _ _ _ h=>h) (Or.inl ⟨by rfl,?_⟩) ?_ ?_;rotate_left
       ·exact zqt
       rotate_left
       ·exact zqs
       refine pure_ (i:=11) (N:=some 31) (v:=?_) (a':=?_) (zqb 16 4094) rfl rfl (any_of HT_.out zqk) (fun _ _ _ h=>h) (Or.inl ⟨by rfl,?_⟩) ?_ ?_;rotate_left
       ·exact zqt
       rotate_left
       ·exact zqs
       refine pure_ (i:=12) (N:=some 32) (v:=?_) (a':=?_) (zqb 16 8190) rfl rfl (any_of HT_.out zqk) (fun _ _ _ h=>h) (Or.inl ⟨by rfl,?_⟩) ?_ ?_;rotate_left
       ·exact zqt
       rotate_left
       ·exact zqs
       refine pure_ (i:=13) (N:=some 33) (v:=?_) (a':=?_) (zqb 16 16382) rfl rfl (any_of HT_.out zqk) (fun _ _ _ h=>h) (Or.inl ⟨by rfl,?_⟩) ?_ ?_;rotate_left
       ·exact zqt
       rotate_left
       ·exact zqs
       refine take_ (i:=0) (N:=some 20) (v:=?_) (a':=?_) (zqb 16 16383) rfl rfl (take_ofW HT_.out HW_.out zqk) (fun _ _ _ h=>h) (Or.inl ⟨by rfl,?_⟩) hHeld ?_ ?_;rotate_left
       ·rintro w' ⟨s0,s1⟩;go_simp;with_reducible rfl
       rotate_left
       ·exact zqs
       refine one_ (i:=14) (N:=some 34) (zqb 16 32767) rfl rfl (one_of HT_.out zqk) (by decide) (fun K hK=>?_);refine goes_ Try.func76 zqk rfl #[.agg #[.slice A0_0 l0_0.length c0_0,.slice A0_1 l0_1.length c0_1],.int .i64 (wrap64 (Int.tdiv (wrap64 (Int.tdiv a2 (l0_1.length:Int))) (l0_1.length:Int))),.int .i64 (Int.tmod (wrap64 (Int.tdiv a2 (l0_1.length:Int))) (l0_1.length:Int)),.int .i64 (Int.tmod a2 (l0_1.length:Int))] (by rfl) rfl rfl zq1 ?_;(with_reducible refine(spec_l6Split.calls k1 _ _ l0_0 _ _ l0_1 (wrap64 (Int.tdiv (wrap64 (Int.tdiv a2 (l0_1.length:Int))) (l0_1.length:Int))) (Int.tmod (wrap64 (Int.tdiv a2 (l0_1.length:Int))) (l0_1.length:Int)) (Int.tmod a2 (l0_1.length:Int)) true _ ?side1 ?side2 ?side3 ?side4 A9.out).mono ?_);(case side1=> exact zq42);(case side2=>exact a4.out);(case side3=> exact zq87);(case side4=>exact a5.out);rintro e d4 ⟨rfl,hb⟩;refine⟨_,rfl,?_⟩;replace a0:=zqm (blk_below (g:=a1) (o:= .cells #[.slice A0_0 l0_0.length c0_0,.slice A0_1 l0_1.length c0_1] 26 (0,0)) zq2 hb);replace HB:=zqm (below_step zq53 hb);clear hb;refine hK.out _ _ ⟨(blk_cell a0.out 0).trans rfl,(blk_cell a0.out 1).trans rfl⟩ (fun hHeld=>?_);clear hK K;refine norm_ (a':=?_) ?_ ?_;rotate_left
       ·show Act.put _ (some 34) _=_;exact zqs
       refine pure_ (i:=15) (N:=some 35) (v:=?_) (a':=?_) (zqb 16 65535) rfl rfl (any_of HT_.out zqk) (fun _ _ _ h=>h) (Or.inl ⟨by rfl,?_⟩) ?_ ?_;rotate_left
       ·exact zqt
       rotate_left
       ·exact zqs
       refine done_ (done_of HT_.out zqk) ?_;try go_wp2
       go_roundg k1
       (case measure=>have:=b9.out;omega);case rel=>exact⟨(wrap64 (a2+1)),(by first|rfl|(simp;done)|(simp [*];done)),H',⟨by have:=b9.out;omega⟩,⟨zq2⟩,⟨zq53⟩⟩
      ·replace b0:=Bool.eq_false_iff.mpr b0;subst b0;(have H1:(some false)=some r:=by rw [if_neg (show¬(false=true) by decide)] at H;exact H);clear H;have H:=H1;clear H1;obtain rfl:=Option.some.inj H;(try go_wp2);replace a0:=zqm (blk_drew a0.out);replace HB:=zqm (below_drew1 HB.out);refine start_ (n:=16) (S:=fun w'=>w'.cell? ⟨a1,0,none⟩=some (.slice A0_0 l0_0.length c0_0)∧w'.cell? ⟨a1,1,none⟩=some (.slice A0_1 l0_1.length c0_1)) (ds:= []) (zqb 16 0) zqk rfl rfl ⟨(blk_cell a0.out 0).trans rfl,(blk_cell a0.out 1).trans rfl⟩ (fun hHeld=>?_);refine with_tabW spec_BooleanOk.tab7 spec_BooleanOk.bits7 (fun HT_ HW_=>?_);generalize wr.drew=d5 at a0 HB hHeld ⊢;refine pure_ (i:=1) (N:=some 21) (v:=?_) (a':=?_) (zqb 16 2) rfl rfl (any_of HT_.out zqk) (fun _ _ _ h=>h) (Or.inl ⟨by rfl,?_⟩) ?_ ?_;rotate_left
       ·exact zqt
       rotate_left
       ·exact zqs
       refine pure_ (i:=2) (N:=some 22) (v:=?_) (a':=?_) (zqb 16 6) rfl rfl (any_of HT_.out zqk) (fun _ _ _ h=>h) (Or.inl ⟨by rfl,?_⟩) ?_ ?_;rotate_left
       ·exact zqt
       rotate_left
       ·exact zqs
       refine pure_ (i:=3) (N:=some 23) (v:=?_) (a':=?_) (zqb 16 14) rfl rfl (any_of HT_.out zqk) (fun _ _ _ h=>h) (Or.inl ⟨by rfl,?_⟩) ?_ ?_;rotate_left
       ·exact zqt
       rotate_left
       ·exact zqs
       refine pure_ (i:=4) (N:=some 24) (v:=?_) (a':=?_) (zqb 16 30) rfl rfl (any_of HT_.out zqk) (fun _ _ _ h=>h) (Or.inl ⟨by rfl,?_⟩) ?_ ?_;rotate_left
       ·exact zqt
       rotate_left
       ·exact zqs
       refine pure_ (i:=5) (N:=some 25) (v:=?_) (a':=?_) (zqb 16 62) rfl rfl (any_of HT_.out zqk) (fun _ _ _ h=>h) (Or.inl ⟨by rfl,?_⟩) ?_ ?_;rotate_left
       ·exact zqt
       rotate_left
       ·exact zqs
       refine pure_ (i:=6) (N:=some 26) (v:=?_) (a':=?_) (zqb 16 126) rfl rfl (any_of HT_.out zqk) (fun _ _ _ h=>h) (Or.inl ⟨by rfl,?_⟩) ?_ ?_;rotate_left
       ·exact zqt
       rotate_left
       ·exact zqs
       refine pure_ (i:=7) (N:=some 27) (v:=?_) (a':=?_) (zqb 16 254) rfl rfl (any_of HT_.out zqk) (fun _ _ _ h=>h) (Or.inl ⟨by rfl,?_⟩) ?_ ?_;rotate_left
       ·exact zqt
       rotate_left
       ·exact zqs
       refine pure_ (i:=8) (N:=some 28) (v:=?_) (a':=?_) (zqb 16 510) rfl rfl (any_of HT_.out zqk) (fun _ _ _ h=>h) (Or.inl ⟨by rfl,?_⟩) ?_ ?_;rotate_left
       ·exact zqt
       rotate_left
       ·exact zqs
       refine pure_ (i:=9) (N:=some 29) (v:=?_) (a':=?_) (zqb 16 1022) rfl rfl (any_of HT_.out zqk) (fun _ _ _ h=>h) (Or.inl ⟨by rfl,?_⟩) ?_ ?_;rotate_left
       ·exact zqt
       rotate_left
       ·exact zqs
       refine pure_ (i:=10) (N:=some 30) (v:=?_) (a':=?_) (zqb 16 2046) rfl rfl (any_of HT_.out zqk) (fun _ _ _ h=>h) (Or.inl ⟨by rfl,?_⟩) ?_ ?_;rotate_left
       ·exact zqt
       rotate_left
       ·exact zqs
       refine pure_ (i:=11) (N:=some 31) (v:=?_) (a':=?_) (zqb 16 4094) rfl rfl (any_of HT_.out zqk) (fun _ _ _ h=>h) (Or.inl ⟨by rfl,?_⟩) ?_ ?_;rotate_left
       ·exact zqt
       rotate_left
       ·exact zqs
       refine pure_ (i:=12) (N:=some 32) (v:=?_) (a':=?_) (zqb 16 8190) rfl rfl (any_of HT_.out zqk) (fun _ _ _ h=>h) (Or.inl ⟨by rfl,?_⟩) ?_ ?_;rotate_left
       ·exact zqt
       rotate_left
       ·exact zqs
       refine pure_ (i:=13) (N:=some 33) (v:=?_) (a':=?_) (zqb 16 16382) rfl rfl (any_of HT_.out zqk) (fun _ _ _ h=>h) (Or.inl ⟨by rfl,?_⟩) ?_ ?_;rotate_left
       ·exact zqt
       rotate_left
       ·exact zqs
       refine take_ (i:=0) (N:=some 20) (v:=?_) (a':=?_) (zqb 16 16383) rfl rfl (take_ofW HT_.out HW_.out zqk) (fun _ _ _ h=>h) (Or.inl ⟨by rfl,?_⟩) hHeld ?_ ?_;rotate_left
       ·rintro w' ⟨s0,s1⟩;go_simp;with_reducible rfl
       rotate_left
       ·exact zqs
       refine one_ (i:=14) (N:=some 34) (zqb 16 32767) rfl rfl (one_of HT_.out zqk) (by decide) (fun K hK=>?_);refine goes_ Try.func76 zqk rfl #[.agg #[.slice A0_0 l0_0.length c0_0,.slice A0_1 l0_1.length c0_1],.int .i64 (wrap64 (Int.tdiv (wrap64 (Int.tdiv a2 (l0_1.length:Int))) (l0_1.length:Int))),.int .i64 (Int.tmod (wrap64 (Int.tdiv a2 (l0_1.length:Int))) (l0_1.length:Int)),.int .i64 (Int.tmod a2 (l0_1.length:Int))] (by rfl) rfl rfl zq1 ?_;(with_reducible refine(spec_l6Split.calls k1 _ _ l0_0 _ _ l0_1 (wrap64 (Int.tdiv (wrap64 (Int.tdiv a2 (l0_1.length:Int))) (l0_1.length:Int))) (Int.tmod (wrap64 (Int.tdiv a2 (l0_1.length:Int))) (l0_1.length:Int)) (Int.tmod a2 (l0_1.length:Int)) false _ ?side1 ?side2 ?side3 ?side4 A9.out).mono ?_);(case side1=> exact zq42);(case side2=>exact a4.out);(case side3=> exact zq87);(case side4=>exact a5.out);rintro e d6 ⟨rfl,hb⟩;refine⟨_,rfl,?_⟩;replace a0:=zqm (blk_below (g:=a1) (o:= .cells #[.slice A0_0 l0_0.length c0_0,.slice A0_1 l0_1.length c0_1] 26 (0,0)) zq2 hb);replace HB:=zqm (below_step zq53 hb);clear hb;refine hK.out _ _ ⟨(blk_cell a0.out 0).trans rfl,(blk_cell a0.out 1).trans rfl⟩ (fun hHeld=>?_);clear hK K;refine norm_ (a':=?_) ?_ ?_;rotate_left
       ·show Act.put _ (some 34) _=_;exact zqs
       refine pure_ (i:=15) (N:=some 35) (v:=?_) (a':=?_) (zqb 16 65535) rfl rfl (any_of HT_.out zqk) (fun _ _ _ h=>h) (Or.inl ⟨by rfl,?_⟩) ?_ ?_;rotate_left
       ·exact zqt
       rotate_left
       ·exact zqs
       refine done_ (done_of HT_.out zqk) ?_;try go_wp2
       go_ret
       exact⟨zq11,zq53⟩
    ·rw [if_neg c7] at H;have c2:decide (a2<(wrap64 ((wrap64 ((l0_1.length:Int)*(l0_1.length:Int)))*(l0_1.length:Int))))=false:=decide_eq_false c7;clear c7;obtain rfl:=Option.some.inj H
     go_wp2
     go_ret
     exact⟨zq11,zq53⟩
 ·replace c3:=Bool.eq_false_iff.mpr c3;subst c3;(have H1:(some false)=some r:=by rw [if_neg (show¬(false=true) by decide)] at H;exact H);clear H;have H:=H1;clear H1;obtain rfl:=Option.some.inj H
  go_enter Try.func16,Try.ntmps16
  go_wp2_with (first|((with_reducible refine gate_dst (N:=1) rfl ?_);refine box_event ?hg (N:=1) ?hd (cs:= #[.slice A0_0 l0_0.length c0_0,.slice A0_1 l0_1.length c0_1]) (t:=26) ?hr ?_;(case hd=>rfl);(case hg=>rfl);(case hr=>first|(go_simp;done)|(go_simp;rfl));intro a1 hg c0 hbox hb;have a9:=zqm (below_step zq0 hb);have a0:=zqm (hbox);have b6:=zqm ((by rw [hg];exact(below_size zq0):w.heap.size≤a1));have a3:=zqm ((by rw [hg];exact(below_size zq0):w.heap.size≤a1));clear HB;have HB:=a9;clear a9 hb hbox hg;have c4:c0.cell? ⟨a1,0,none⟩=some (.slice A0_0 l0_0.length c0_0):=(blk_cell a0.out 0).trans rfl;have c5:c0.cell? ⟨a1,1,none⟩=some (.slice A0_1 l0_1.length c0_1):=(blk_cell a0.out 1).trans rfl;have c6:=blk_frozen a0.out 0;have c9:=blk_frozen a0.out 1)|((with_reducible refine gate_callee (f:=17) rfl ?_);refine goesL_ (some 9) rfl rfl Try.func17 zqk rfl #[.agg #[.slice A0_0 l0_0.length c0_0,.slice A0_1 l0_1.length c0_1]] rfl zq1 ?_;(with_reducible refine(spec_LogicOk.calls k _ _ l0_0 _ _ l0_1 false _ ?side1 ?side2 ?side3 ?side4 A2.out).mono ?_);(case side1=> exact zq42);(case side2=>exact a4.out);(case side3=> exact zq87);(case side4=>exact a5.out);rintro e d7 ⟨rfl,hb⟩;refine⟨_,rfl,?_⟩;replace a0:=zqm (blk_below (g:=a1) (o:= .cells #[.slice A0_0 l0_0.length c0_0,.slice A0_1 l0_1.length c0_1] 26 (0,0)) zq2 hb);replace HB:=zqm (below_step zq53 hb);clear hb))
  go_ret
  exact⟨zq11,zq53⟩
end Go.Proofs.Ytcbjpdaogicibaa.Print
end
section
namespace Go.Proofs.Ytcbjpdaogicibaa.Print
open Go.RowKit Go.Proofs.YtcbjpdaogicibaaW.PrintWords Go.Proofs.YtcbjpdaogicibaaW.PrintLast Go.Proofs.YtcbjpdaogicibaaW.PrintMore
mutual
def impl_AtomsOf.l0 : Nat → List (List Int) → Int → List Int → Int → Int → Option (List Int)
 | 0, _, _, _, _, _ => none
 | k + 1, x0, x3, x5, x18, x19 => if x19 < x18 then (impl_AtomsOf.l1 k x0 x3 x5 x19 0 x18 x19 (x0.length : Int) 0) else (some x5)
def impl_AtomsOf.l1 : Nat → List (List Int) → Int → List Int → Int → Int → Int → Int → Int → Int → Option (List Int)
 | 0, _, _, _, _, _, _, _, _, _ => none
 | k + 1, x0, x3, x5, x6, x7, x18, x19, x23, x24 => if x24 < x23 then (if 0 ≤ x24 then (if x24 < (x0.length : Int) then (if 0 ≤ x6 then (if x6 < ((rd_L2 x0 x24).length : Int) then (impl_AtomsOf.l1 k x0 x3 x5 x6 (wrap64 (x7 + (rd (rd_L2 x0 x24) x6))) x18 x19 x23 (wrap64 (x24 + 1))) else (none)) else (none)) else (none)) else (none)) else (if x6 = x3 then (impl_AtomsOf.l0 k x0 x3 x5 x18 (wrap64 (x19 + 1))) else (if x7 = 2 then (if x5.length < 17592186044416 then (impl_AtomsOf.l0 k x0 x3 (x5 ++ [x6]) x18 (wrap64 (x19 + 1))) else (none)) else (impl_AtomsOf.l0 k x0 x3 x5 x18 (wrap64 (x19 + 1)))))
end
def impl_AtomsOf.f (k : Nat) (l0 : List (List Int)) : Option (List Int) := (impl_LeastOf.f k l0).bind fun bt532 => (if bt532.2 = true then (impl_AtomsOf.l0 k l0 bt532.1 (([] : List Int)) (l0.length : Int) 0) else (some ([] : List Int)))
set_option maxHeartbeats 8000000 in
set_option maxRecDepth 100000 in
theorem impl_AtomsOf.calls (k : Nat) (A0 : Option Addr) (c0 : Nat) (l0 : List (List Int)) (r : List Int) (w : World) (hr0 : Kd.C (Kd.slice 3 (Kd.int .i64)) w A0 l0.length l0) (hc0 : l0.length ≤ c0) (h : impl_AtomsOf.f k l0 = some r) :
  Calls Try.prog 21 #[.slice A0 l0.length c0] w fun e w' => ∃ v0_ : Value, e = .returned (v0_) ∧ Kd.R (Kd.int .i64) 3 w' w.heap.size (fun _ => True) v0_ r ∧ Below w.heap.size w w' := by
 have d3:=zqm hr0;have e5:=zqm hc0;clear hr0 hc0;have HB:=zqm (Below.refl w.heap.size w);have H:((impl_LeastOf.f k l0).bind fun c4=>(if c4.2=true then(impl_AtomsOf.l0 k l0 c4.1 (([]:List Int)) (l0.length:Int) 0) else(some ([]:List Int))))=some r:=h;clear h;replace H:=Option.bind_eq_some_iff.mp H;obtain⟨⟨a2,d4⟩,e4,H⟩:=H;replace H:(if d4=true then(impl_AtomsOf.l0 k l0 a2 (([]:List Int)) (l0.length:Int) 0) else(some ([]:List Int)))=some r:=H;have A2:=zqm e4;clear e4
 by_cases c3:d4=true
 ·subst c3;(have H1:(impl_AtomsOf.l0 k l0 a2 (([]:List Int)) (l0.length:Int) 0)=some r:=by rw [if_pos rfl] at H;exact H);clear H;have H:=H1;clear H1;obtain⟨d5,a5⟩: ∃y_:List Int,y_=(([]:List Int)):=⟨_,rfl⟩;(replace H:(impl_AtomsOf.l0 k l0 a2 d5 (l0.length:Int) 0)=some r:=by first|(rw [a5];with_reducible exact H)|(have b1:=(Option.bind_some _ _).symm.trans H;rw [a5];with_reducible exact b1)|(have b1:=(Option.bind_some _ _).symm.trans H;with_reducible exact b1)|with_reducible exact H|(rw [a5];exact H)|exact H);have c2:=zqm a5;clear a5;have H':=zqm H;clear H
  go_enter Try.func21,Try.ntmps21
  go_wp2_with (first|((with_reducible refine gate_callee (f:=85) rfl ?_);refine goesL_ (some 11) rfl rfl Try.func85 zqk rfl #[.slice A0 l0.length c0] rfl zq1 ?_;(with_reducible refine(impl_LeastOf.calls k _ _ l0 a2 true _ ?side1 ?side2 A2.out).mono ?_);(case side1=> exact zq284);(case side2=>exact e5.out);rintro e w' ⟨rfl,⟨nd,rfl⟩⟩;refine⟨_,rfl,?_⟩)|((with_reducible refine gate_dst (N:=16) rfl ?_);refine Kd.R_lit (Kd.int .i64) _ 3 ?hg (N:=16) ?hd (xs:=([]:List Int)) (inner:= []) (ok:=fun _=>True) (okp:=fun _=>True) ?hr ?hp (fun _ hk=>hk) trivial (Below.refl _ _) (Nat.le_refl _) (by simp) ?_;(case hd=>rfl);(case hg=>rfl);(case hr=>first|(go_simp;done)|(go_simp;rfl));(case hp=>exact(Reps.none _ _));intro g1 w4 b6 hb hg_ hnew_;clear hg_ hnew_;(first|rw [← c2.out] at b6|(simp only [Int.reduceToNat] at b6;rw [← c2.out] at b6));have d7:=zqm (Kd.R_lower b6 (below_size zq0));replace HB:=zqm (below_step zq0 hb);clear hb b6))
  go_loopg [5,19] k (fun kq v5 f3 w'=> ∃(a3:List Int) (a0:Int),f3= .int .i64 a0∧Aside0 (impl_AtomsOf.l0 kq l0 a2 a3 (l0.length:Int) a0=some r)∧Aside0 (kq≤k)∧Aside0 (Kd.R (Kd.int .i64) 3 w' w.heap.size (fun _=>True) v5 a3)∧Aside0 (Below w.heap.size w w'))
  case atStart=>exact⟨(d5),(0),(by first|rfl|(simp;done)|(simp [*];done)),H',⟨Nat.le_refl _⟩,⟨by(with_reducible repeat(first|apply Kd.R_alloc|apply Kd.R_drewN|apply Kd.R_drew));exact d7.out⟩,⟨zq0⟩⟩
  case round=>
   clear H';obtain⟨a3,a0,rfl,HA,a9,HO_5,HB⟩:=hrel
   cases gk with
   |zero=>exact absurd HA.out (by simp [impl_AtomsOf.l0])
   |succ k1=>
    have H:=HA.out;clear HA;simp only [impl_AtomsOf.l0] at H
    by_cases c6:a0<(l0.length:Int)
    ·rw [if_pos c6] at H;have e6:decide (a0<(l0.length:Int))=true:=decide_eq_true c6;clear c6;have H':=zqm H;clear H
     go_wp2
     go_loopg [7,24] k1 (fun kq v7 f4 w'=> ∃(a4:Int) (a1:Int),v7= .int .i64 a4∧f4= .int .i64 a1∧Aside0 (impl_AtomsOf.l1 kq l0 a2 a3 a0 a4 (l0.length:Int) a0 (l0.length:Int) a1=some r)∧Aside0 (kq≤k1)∧Aside0 (Kd.R (Kd.int .i64) 3 w' w.heap.size (fun _=>True) u5 a3)∧Aside0 (Below w.heap.size w w'))
     case atStart=>exact⟨(0),(0),(by first|rfl|(simp;done)|(simp [*];done)),(by first|rfl|(simp;done)|(simp [*];done)),H',⟨Nat.le_refl _⟩,⟨zq49⟩,⟨zq0⟩⟩
     case round=>
      clear H';obtain⟨a4,a1,rfl,rfl,HA,b0,HO_5,HB⟩:=hrel
      cases gk with
      |zero=>exact absurd HA.out (by simp [impl_AtomsOf.l1])
      |succ k2=>
       have H:=HA.out;clear HA;simp only [impl_AtomsOf.l1] at H
       by_cases c7:a1<(l0.length:Int)
       ·rw [if_pos c7] at H;have e7:decide (a1<(l0.length:Int))=true:=decide_eq_true c7;clear c7
        by_cases c8:0≤a1
        ·rw [if_pos c8] at H;have f9:decide (0≤a1)=true:=decide_eq_true c8;clear c8
         by_cases c9:a1<(l0.length:Int)
         ·rw [if_pos c9] at H;have g0:decide (a1<(l0.length:Int))=true:=decide_eq_true c9;clear c9
          by_cases c5:0≤a0
          ·rw [if_pos c5] at H;have f7:decide (0≤a0)=true:=decide_eq_true c5;clear c5
           by_cases d0:a0<((rd_L2 l0 a1).length:Int)
           ·rw [if_pos d0] at H;have f8:decide (a0<((rd_L2 l0 a1).length:Int))=true:=decide_eq_true d0;clear d0;have H':=zqm H;clear H;have b7:0≤(a1:Int):=zqo;have b9:a1<(l0.length:Int):=zqo;obtain⟨f5,f1,f2,e8,a7,b5,b4⟩:=at_L2 d3.out a1 b7 b9
            cases e8
            replace a7:=(HB.out.cell (World.block_lt_of_cell? w _ a7)).trans a7;have d2:=zqm b4;have f0:=zqm b5;clear b4 b5;replace b7:=eq_true b7;replace b9:=eq_true b9;have b8:0≤(a0:Int):=zqo;have c1:a0<((rd_L2 l0 a1).length:Int):=zqo;obtain⟨f6,e9,a8⟩:=Kd.at_int d2.out a0 b8 c1
            cases e9
            replace a8:=(HB.out.cell (World.block_lt_of_cell? w _ a8)).trans a8;replace b8:=eq_true b8;replace c1:=eq_true c1
            go_wp2
            go_roundg k2
            (case measure=>have:=a9.out;have:=b0.out;omega);case rel=>exact⟨(wrap64 (a4+(rd (rd_L2 l0 a1) a0))),(wrap64 (a1+1)),(by first|rfl|(simp;done)|(simp [*];done)),(by first|rfl|(simp;done)|(simp [*];done)),H',⟨by have:=a9.out;have:=b0.out;omega⟩,⟨zq49⟩,⟨zq0⟩⟩
           ·rw [if_neg d0] at H;exact absurd H (by simp)
          ·rw [if_neg c5] at H;exact absurd H (by simp)
         ·rw [if_neg c9] at H;exact absurd H (by simp)
        ·rw [if_neg c8] at H;exact absurd H (by simp)
       ·rw [if_neg c7] at H;have e7:decide (a1<(l0.length:Int))=false:=decide_eq_false c7;clear c7
        by_cases b2:a0=a2
        ·rw [if_pos b2] at H;have e0:(a0==a2)=true:=beq_iff_eq.mpr b2;have e1:(a0 !=a2)=false:=bne_eq_false_iff_eq.mpr b2;clear b2;have H':=zqm H;clear H
         go_wp2
         go_roundg k2
         (case measure=>have:=a9.out;have:=b0.out;omega);case rel=>exact⟨(a3),(wrap64 (a0+1)),(by first|rfl|(simp;done)|(simp [*];done)),H',⟨by have:=a9.out;have:=b0.out;omega⟩,⟨zq49⟩,⟨zq0⟩⟩
        ·rw [if_neg b2] at H;have e0:(a0==a2)=false:=beq_eq_false_iff_ne.mpr b2;have e1:(a0 !=a2)=true:=bne_iff_ne.mpr b2
         by_cases b3:a4=2
         ·rw [if_pos b3] at H;have e2:(a4==2)=true:=beq_iff_eq.mpr b3;have e3:(a4 !=2)=false:=bne_eq_false_iff_eq.mpr b3;clear b3
          by_cases d1:a3.length<17592186044416
          ·rw [if_pos d1] at H;have LMc14:=zqm d1;clear d1;obtain⟨d6,a6⟩: ∃y_:List Int,y_=(a3 ++ [a0]):=⟨_,rfl⟩;(replace H:(impl_AtomsOf.l0 k2 l0 a2 d6 (l0.length:Int) (wrap64 (a0+1)))=some r:=by first|(rw [a6];with_reducible exact H)|(have b1:=(Option.bind_some _ _).symm.trans H;rw [a6];with_reducible exact b1)|(have b1:=(Option.bind_some _ _).symm.trans H;with_reducible exact b1)|with_reducible exact H|(rw [a6];exact H)|exact H);have d9:=zqm a6;clear a6;have H':=zqm H;clear H
           go_wp2_with (first|((with_reducible refine gate_builtin (b:= .append) (xs:= #[.tmp 44,.tmp 46]) rfl ?_);at_builtin;refine Kd.R_append (Kd.int .i64) (w0:=w) w.heap.size rfl (.tmp 44) (.tmp 46) 24 3 (.int .i64 0) 8 rfl Try.underlying24 info3 rfl (by decide) (by omega) u5 a3 a0 [.int .i64 a0] (fun _=>True) (fun _=>False) rfl rfl ?aP (fun _ hk=>hk.elim) ?aF ?aO ?aB ?aS ?aL ?_;(case aP=>exact rfl);(case aB=> exact zq231);(case aF=>exact(fun _ _=>trivial));(case aO=> exact zq251);(case aS=> exact zq219);(case aL=>have:=LMc14.out;omega);intro g2 g3 ho hb hg hat;rw [← d9.out] at ho;replace HB:=zqm (hb);have d8:=zqm (ho);clear HO_5;clear ho hb hg hat))
           go_roundg k2
           (case measure=>have:=a9.out;have:=b0.out;omega);case rel=>exact⟨(d6),(wrap64 (a0+1)),(by first|rfl|(simp;done)|(simp [*];done)),H',⟨by have:=a9.out;have:=b0.out;omega⟩,⟨zq312⟩,⟨zq0⟩⟩
          ·rw [if_neg d1] at H;exact absurd H (by simp)
         ·rw [if_neg b3] at H;have e2:(a4==2)=false:=beq_eq_false_iff_ne.mpr b3;have e3:(a4 !=2)=true:=bne_iff_ne.mpr b3;have H':=zqm H;clear H
          go_wp2
          go_roundg k2
          (case measure=>have:=a9.out;have:=b0.out;omega);case rel=>exact⟨(a3),(wrap64 (a0+1)),(by first|rfl|(simp;done)|(simp [*];done)),H',⟨by have:=a9.out;have:=b0.out;omega⟩,⟨zq49⟩,⟨zq0⟩⟩
    ·rw [if_neg c6] at H;have e6:decide (a0<(l0.length:Int))=false:=decide_eq_false c6;clear c6;obtain rfl:=Option.some.inj H
     go_wp2
     go_ret
     exact⟨_,zq11,zq49,zq0⟩
 ·replace c3:=Bool.eq_false_iff.mpr c3;subst c3;(have H1:(some ([]:List Int))=some r:=by rw [if_neg (show¬(false=true) by decide)] at H;exact H);clear H;have H:=H1;clear H1;obtain rfl:=Option.some.inj H
  go_enter Try.func21,Try.ntmps21
  go_wp2_with (first|((with_reducible refine gate_callee (f:=85) rfl ?_);refine goesL_ (some 11) rfl rfl Try.func85 zqk rfl #[.slice A0 l0.length c0] rfl zq1 ?_;(with_reducible refine(impl_LeastOf.calls k _ _ l0 a2 false _ ?side1 ?side2 A2.out).mono ?_);(case side1=> exact zq284);(case side2=>exact e5.out);rintro e w' ⟨rfl,⟨nd,rfl⟩⟩;refine⟨_,rfl,?_⟩))
  go_ret
  exact⟨_,zq11,zq133,zq0⟩
end Go.Proofs.Ytcbjpdaogicibaa.Print
end
section
namespace Go.Proofs.Ytcbjpdaogicibaa.Print
open Go.RowKit Go.Proofs.YtcbjpdaogicibaaW.PrintWords Go.Proofs.YtcbjpdaogicibaaW.PrintLast Go.Proofs.YtcbjpdaogicibaaW.PrintMore
def laws_FnBooleanOk.f (k : Nat) (l0 : List Int) : Option (Bool) := if (l0.length : Int) > 1048576 then (some true) else ((spec_DrawBooleanOk.f k l0).bind fun bt542 => ((impl_BooleanOk.f bt542.1 bt542.2).bind fun t549 => ((spec_BooleanOk.f k bt542.1 bt542.2).bind fun t550 => (if (t549 != t550) = true then (some false) else ((spec_LogicOk.f k bt542.1 bt542.2).bind fun t551 => (if t551 = true then ((impl_KeepsOk.f bt542.1 bt542.2).bind fun t552 => (if t552 = true then ((impl_BlocksOf.f bt542.1 bt542.2).bind fun t553 => (if (t549 == ((t553.length : Int) == 1)) = true then (if t549 = true then ((impl_AtomsOf.f k bt542.1).bind fun t556 => (some ((bt542.2.length : Int) == (shl .i64 1 (t556.length : Int))))) else (some true)) else (some false))) else (if (t549 == false) = true then (if t549 = true then ((impl_AtomsOf.f k bt542.1).bind fun t559 => (some ((bt542.2.length : Int) == (shl .i64 1 (t559.length : Int))))) else (some true)) else (some false)))) else (if t549 = true then (some false) else ((laws_alive.f k).bind fun t562 => (some t562)))))))))
def laws_FnBooleanOk.T9 : Bool × List (List Nat × List Nat) := (true, [([], []), ([], []), ([1], [1]), ([2, 2], [2]), ([3], [3]), ([4, 3, 3], [3, 4]), ([5, 3], [3, 5]), ([6, 3], [3, 6]), ([3, 7], [3, 7]), ([0, 8], [0, 8]), ([9, 5], [9]), ([10], [10]), ([11, 10], [10, 11]), ([12, 10, 10], [10, 12]), ([13], [13]), ([14, 13], [13, 14]), ([15, 13], [13, 15]), ([13], [13]), ([17, 13], [13, 17]), ([18, 13, 13], [13, 18]), ([19, 13], [13, 19]), ([20, 13], [13, 20]), ([16, 21, 13], [13, 16, 21]), ([13, 22, 10], [10, 13, 22]), ([10, 23], [10, 23]), ([24, 19, 0, 1, 2, 3, 4, 5, 6, 7, 8, 9, 10, 11, 12, 13, 14, 15, 16, 17, 18, 19, 20, 21, 22, 23, 24], [24])])
def laws_FnBooleanOk.B9 : List Nat := [0, 0, 2, 6, 14, 30, 62, 126, 254, 511, 1023, 2047, 4095, 8191, 16383, 32767, 65535, 16383, 147455, 409599, 933887, 1982463, 4194303, 8388607, 16777215, 33554431]
theorem laws_FnBooleanOk.tab9 : rtab .any (opsOf Try.f3 9) = laws_FnBooleanOk.T9 := by kernel_rfl
theorem laws_FnBooleanOk.bits9 : waitsOk laws_FnBooleanOk.T9.2 laws_FnBooleanOk.B9 = true := by kernel_rfl
set_option maxHeartbeats 8000000 in
set_option maxRecDepth 100000 in
theorem laws_FnBooleanOk.calls (k : Nat) (A0 : Option Addr) (c0 : Nat) (l0 : List Int) (r : Bool) (w : World) (hr0 : Kd.C (Kd.int .u8) w A0 l0.length l0) (hc0 : l0.length ≤ c0) (h : laws_FnBooleanOk.f k l0 = some r) :
  Calls Try.prog 3 #[.slice A0 l0.length c0] w fun e w' => e = .returned (.bool r) ∧ Below w.heap.size w w' := by
 have hu26:=Try.underlying26;have h3:=zqm hr0;have h2:=zqm hc0;clear hr0 hc0;have HB:=zqm (Below.refl w.heap.size w);have H:(if(l0.length:Int)>1048576 then(some true) else((spec_DrawBooleanOk.f k l0).bind fun e1=>((impl_BooleanOk.f e1.1 e1.2).bind fun a6=>((spec_BooleanOk.f k e1.1 e1.2).bind fun b2=>(if(a6 !=b2)=true then(some false) else((spec_LogicOk.f k e1.1 e1.2).bind fun g4=>(if g4=true then((impl_KeepsOk.f e1.1 e1.2).bind fun f4=>(if f4=true then((impl_BlocksOf.f e1.1 e1.2).bind fun b1=>(if(a6==((b1.length:Int)==1))=true then(if a6=true then((impl_AtomsOf.f k e1.1).bind fun a9=>(some ((e1.2.length:Int)==(shl .i64 1 (a9.length:Int))))) else(some true)) else(some false))) else(if(a6==false)=true then(if a6=true then((impl_AtomsOf.f k e1.1).bind fun b0=>(some ((e1.2.length:Int)==(shl .i64 1 (b0.length:Int))))) else(some true)) else(some false)))) else(if a6=true then(some false) else((laws_alive.f k).bind fun f1=>(some f1))))))))))=some r:=h;clear h
 by_cases c2:(l0.length:Int)>1048576
 ·rw [if_pos c2] at H;have o6:decide (1048576<(l0.length:Int))=true:=decide_eq_true c2;have o7:decide (1048576<l0.length)=true:=decide_eq_true (by omega);clear c2;obtain rfl:=Option.some.inj H
  go_enter Try.func3,Try.ntmps3
  go_wp2
  go_ret
  exact⟨zq11,zq0⟩
 ·rw [if_neg c2] at H;have o6:decide (1048576<(l0.length:Int))=false:=decide_eq_false c2;have o7:decide (1048576<l0.length)=false:=decide_eq_false (by omega);clear c2;replace H:=Option.bind_eq_some_iff.mp H;obtain⟨⟨a4,a5⟩,m4,H⟩:=H;replace H:((impl_BooleanOk.f a4 a5).bind fun a6=>((spec_BooleanOk.f k a4 a5).bind fun b2=>(if(a6 !=b2)=true then(some false) else((spec_LogicOk.f k a4 a5).bind fun g4=>(if g4=true then((impl_KeepsOk.f a4 a5).bind fun f4=>(if f4=true then((impl_BlocksOf.f a4 a5).bind fun b1=>(if(a6==((b1.length:Int)==1))=true then(if a6=true then((impl_AtomsOf.f k a4).bind fun a9=>(some ((a5.length:Int)==(shl .i64 1 (a9.length:Int))))) else(some true)) else(some false))) else(if(a6==false)=true then(if a6=true then((impl_AtomsOf.f k a4).bind fun b0=>(some ((a5.length:Int)==(shl .i64 1 (b0.length:Int))))) else(some true)) else(some false)))) else(if a6=true then(some false) else((laws_alive.f k).bind fun f1=>(some f1))))))))=some r:=H;have A3:=zqm m4;clear m4;replace H:=Option.bind_eq_some_iff.mp H;obtain⟨a6,m5,H⟩:=H;replace H:((spec_BooleanOk.f k a4 a5).bind fun b2=>(if(a6 !=b2)=true then(some false) else((spec_LogicOk.f k a4 a5).bind fun g4=>(if g4=true then((impl_KeepsOk.f a4 a5).bind fun f4=>(if f4=true then((impl_BlocksOf.f a4 a5).bind fun b1=>(if(a6==((b1.length:Int)==1))=true then(if a6=true then((impl_AtomsOf.f k a4).bind fun a9=>(some ((a5.length:Int)==(shl .i64 1 (a9.length:Int))))) else(some true)) else(some false))) else(if(a6==false)=true then(if a6=true then((impl_AtomsOf.f k a4).bind fun b0=>(some ((a5.length:Int)==(shl .i64 1 (b0.length:Int))))) else(some true)) else(some false)))) else(if a6=true then(some false) else((laws_alive.f k).bind fun f1=>(some f1)))))))=some r:=H;have A4:=zqm m5;clear m5;replace H:=Option.bind_eq_some_iff.mp H;obtain⟨b2,m6,H⟩:=H;replace H:(if(a6 !=b2)=true then(some false) else((spec_LogicOk.f k a4 a5).bind fun g4=>(if g4=true then((impl_KeepsOk.f a4 a5).bind fun f4=>(if f4=true then((impl_BlocksOf.f a4 a5).bind fun b1=>(if(a6==((b1.length:Int)==1))=true then(if a6=true then((impl_AtomsOf.f k a4).bind fun a9=>(some ((a5.length:Int)==(shl .i64 1 (a9.length:Int))))) else(some true)) else(some false))) else(if(a6==false)=true then(if a6=true then((impl_AtomsOf.f k a4).bind fun b0=>(some ((a5.length:Int)==(shl .i64 1 (b0.length:Int))))) else(some true)) else(some false)))) else(if a6=true then(some false) else((laws_alive.f k).bind fun f1=>(some f1))))))=some r:=H;have A5:=zqm m6;clear m6
  by_cases c6:(a6 !=b2)=true
  ·rw [if_pos c6] at H;have o8:(a6 !=b2)=true:=c6;(try(have j2:decide (a6=b2)=false:=by simpa using c6));(try(have o9:(a6==b2)=false:=by simpa using c6));(try(have a0x: ¬(a6=b2):=by simpa using c6));clear c6;obtain rfl:=Option.some.inj H
   go_enter Try.func3,Try.ntmps3
   go_wp2_with (first|((with_reducible refine gate_callee (f:=14) rfl ?_);refine goesL_ (some 9) rfl rfl Try.func14 zqk rfl #[.slice A0 l0.length c0] rfl zq1 ?_;(with_reducible refine(spec_DrawBooleanOk.calls k _ _ l0 a4 a5 _ ?side1 ?side2 A3.out).mono ?_);(case side1=> exact zq76);(case side2=>exact h2.out);rintro e w7 ⟨g8,g9,rfl,a8,c3,hb⟩;refine⟨_,rfl,?_⟩;have a2:=zqm (Kd.S_lower a8 (below_size zq0));have a1:=zqm (Kd.Q_lower c3 (below_size zq0));replace HB:=zqm (below_step zq0 hb);clear hb a8 c3)|((with_reducible refine gate_dst (N:=3) rfl ?_);(try(refine gate_guard (by rfl) ?_;dsimp only));refine box_event ?hg (N:=3) ?hd (cs:= #[.slice none 0 0,.slice none 0 0]) (t:=26) ?hr ?_;(case hd=>rfl);(case hg=>rfl);(case hr=>first|(go_simp;done)|(go_simp;rfl));intro a3 hg w8 hbox hb;replace a2:=zqm (Kd.S_below zq30 hb);replace a1:=zqm (Kd.Q_below zq25 hb);have b5:=zqm (below_step zq0 hb);have a0:=zqm (hbox);have f9:=zqm ((by rw [hg];exact(below_size zq0):w.heap.size≤a3));have a7:=zqm ((by rw [hg];exact(below_size zq0):w.heap.size≤a3));clear HB;have HB:=b5;clear b5 hb hbox hg;obtain⟨h1,g7,eo9⟩:=Kd.S_slice a2.out;subst eo9;have u0:w8.cell? ⟨a3,0,none⟩=some (.slice none 0 0):=(blk_cell a0.out 0).trans rfl;have u1:w8.cell? ⟨a3,1,none⟩=some (.slice none 0 0):=(blk_cell a0.out 1).trans rfl;have x7:=blk_frozen a0.out 0;have x8:=blk_frozen a0.out 1;obtain⟨g3,f6,p0,_⟩:=Kd.Q_slice a1.out;subst p0)|((with_reducible refine gate_callee (f:=15) rfl ?_);refine goesL_ (some 11) rfl rfl Try.func15 zqk rfl #[.agg #[.slice h1 a4.length g7,.slice g3 a5.length f6]] rfl zq1 ?_;(with_reducible refine(impl_BooleanOk.calls _ _ a4 _ _ a5 a6 _ ?side1 ?side2 ?side3 ?side4 A4.out).mono ?_);(case side1=>refine(Kd.S_reads' (e:=24) (base:=w.heap.size) (ok:=fun k_=>some k_≠(.slice g3 a5.length f6:Value).ownBlock) (n:=a4.length) (c:=g7) ?_).2.2;exact zq197);(case side2=>exact(Kd.S_reads' a2.out).2.1);(case side3=>refine(Kd.Q_reads' (e:=3) (base:=w.heap.size) (ok:=fun k_=>True) (n:=a5.length) (c:=f6) ?_).2.2;exact zq154);(case side4=>exact(Kd.Q_reads' a1.out).2.1);rintro e m8 ⟨rfl,hb⟩;refine⟨_,rfl,?_⟩;replace a2:=zqm (Kd.S_below zq197 hb);replace a1:=zqm (Kd.Q_below zq154 hb);replace a0:=zqm (blk_below (g:=a3) (o:= .cells #[.slice h1 a4.length g7,.slice g3 a5.length f6] 26 (0,0)) (by(with_reducible repeat(first|refine blk_drewN ?_ _|refine blk_drew ?_|refine blk_alloc ?_ _));refine blk_put (cs:= #[.slice h1 a4.length g7,.slice none 0 0]) ?_ 1 _ rfl;(with_reducible repeat(first|refine blk_drewN ?_ _|refine blk_drew ?_|refine blk_alloc ?_ _));refine blk_put (cs:= #[.slice none 0 0,.slice none 0 0]) ?_ 0 _ rfl;(with_reducible repeat(first|refine blk_drewN ?_ _|refine blk_drew ?_|refine blk_alloc ?_ _));exact a0.out) hb);replace HB:=zqm (below_step zq13 hb);clear hb;have u2:m8.cell? ⟨a3,0,none⟩=some (.slice h1 a4.length g7):=(blk_cell a0.out 0).trans rfl;have u3:m8.cell? ⟨a3,1,none⟩=some (.slice g3 a5.length f6):=(blk_cell a0.out 1).trans rfl;have x9:=blk_frozen a0.out 0;have y0:=blk_frozen a0.out 1)|((with_reducible refine gate_callee (f:=16) rfl ?_);refine goesL_ (some 14) rfl rfl Try.func16 zqk rfl #[.agg #[.slice h1 a4.length g7,.slice g3 a5.length f6]] rfl zq1 ?_;(with_reducible refine(spec_BooleanOk.calls k _ _ a4 _ _ a5 b2 _ ?side1 ?side2 ?side3 ?side4 A5.out).mono ?_);(case side1=> exact zq21);(case side2=>exact(Kd.S_reads' a2.out).2.1);(case side3=> exact zq24);(case side4=>exact(Kd.Q_reads' a1.out).2.1);rintro e w14 ⟨rfl,hb⟩;refine⟨_,rfl,?_⟩;replace a2:=zqm (Kd.S_below zq30 hb);replace a1:=zqm (Kd.Q_below zq25 hb);replace a0:=zqm (blk_below (g:=a3) (o:= .cells #[.slice h1 a4.length g7,.slice g3 a5.length f6] 26 (0,0)) zq2 hb);replace HB:=zqm (below_step zq13 hb);clear hb))
   go_ret
   exact⟨zq11,zq13⟩
  ·rw [if_neg c6] at H;(have o8:(a6 !=b2)=false:=by simpa using c6);(try(have j2:decide (a6=b2)=true:=by simpa using c6));(try(have o9:(a6==b2)=true:=by simpa using c6));clear c6;replace H:=Option.bind_eq_some_iff.mp H;obtain⟨g4,i7,H⟩:=H;replace H:(if g4=true then((impl_KeepsOk.f a4 a5).bind fun f4=>(if f4=true then((impl_BlocksOf.f a4 a5).bind fun b1=>(if(a6==((b1.length:Int)==1))=true then(if a6=true then((impl_AtomsOf.f k a4).bind fun a9=>(some ((a5.length:Int)==(shl .i64 1 (a9.length:Int))))) else(some true)) else(some false))) else(if(a6==false)=true then(if a6=true then((impl_AtomsOf.f k a4).bind fun b0=>(some ((a5.length:Int)==(shl .i64 1 (b0.length:Int))))) else(some true)) else(some false)))) else(if a6=true then(some false) else((laws_alive.f k).bind fun f1=>(some f1))))=some r:=H;have h0:=zqm i7;clear i7
   by_cases i3:g4=true
   ·subst i3;(have H1:((impl_KeepsOk.f a4 a5).bind fun f4=>(if f4=true then((impl_BlocksOf.f a4 a5).bind fun b1=>(if(a6==((b1.length:Int)==1))=true then(if a6=true then((impl_AtomsOf.f k a4).bind fun a9=>(some ((a5.length:Int)==(shl .i64 1 (a9.length:Int))))) else(some true)) else(some false))) else(if(a6==false)=true then(if a6=true then((impl_AtomsOf.f k a4).bind fun b0=>(some ((a5.length:Int)==(shl .i64 1 (b0.length:Int))))) else(some true)) else(some false))))=some r:=by rw [if_pos rfl] at H;exact H);clear H;have H:=H1;clear H1;replace H:=Option.bind_eq_some_iff.mp H;obtain⟨f4,i8,H⟩:=H;replace H:(if f4=true then((impl_BlocksOf.f a4 a5).bind fun b1=>(if(a6==((b1.length:Int)==1))=true then(if a6=true then((impl_AtomsOf.f k a4).bind fun a9=>(some ((a5.length:Int)==(shl .i64 1 (a9.length:Int))))) else(some true)) else(some false))) else(if(a6==false)=true then(if a6=true then((impl_AtomsOf.f k a4).bind fun b0=>(some ((a5.length:Int)==(shl .i64 1 (b0.length:Int))))) else(some true)) else(some false)))=some r:=H;have h7:=zqm i8;clear i8
    by_cases i4:f4=true
    ·subst i4;(have H1:((impl_BlocksOf.f a4 a5).bind fun b1=>(if(a6==((b1.length:Int)==1))=true then(if a6=true then((impl_AtomsOf.f k a4).bind fun a9=>(some ((a5.length:Int)==(shl .i64 1 (a9.length:Int))))) else(some true)) else(some false)))=some r:=by rw [if_pos rfl] at H;exact H);clear H;have H:=H1;clear H1;replace H:=Option.bind_eq_some_iff.mp H;obtain⟨b1,i9,H⟩:=H;replace H:(if(a6==((b1.length:Int)==1))=true then(if a6=true then((impl_AtomsOf.f k a4).bind fun a9=>(some ((a5.length:Int)==(shl .i64 1 (a9.length:Int))))) else(some true)) else(some false))=some r:=H;have i2:=zqm i9;clear i9
     by_cases g5:(a6==((b1.length:Int)==1))=true
     ·rw [if_pos g5] at H;have k9:(a6==((b1.length:Int)==1))=true:=g5;(try(have l1:decide (a6=((b1.length:Int)==1))=true:=by simpa using g5));(try(have l2:(a6==((b1.length:Int)==1))=true:=by simpa using g5));clear g5
      by_cases i5:a6=true
      ·subst i5;(have H1:((impl_AtomsOf.f k a4).bind fun a9=>(some ((a5.length:Int)==(shl .i64 1 (a9.length:Int)))))=some r:=by rw [if_pos rfl] at H;exact H);clear H;have H:=H1;clear H1;replace H:=Option.bind_eq_some_iff.mp H;obtain⟨a9,j0,H⟩:=H;replace H:(some ((a5.length:Int)==(shl .i64 1 (a9.length:Int))))=some r:=H;have m3:=zqm j0;clear j0;obtain⟨f7,f2⟩: ∃j_:Int,(shl .i64 1 (a9.length:Int))=j_:=⟨_,rfl⟩;(replace H:(some ((a5.length:Int)==(f7)))=some r:=by first|(rw [f2] at H;exact H)|(simp only [f2] at H ⊢;exact H));(try rw [f2] at A3);(try rw [f2] at A4);(try rw [f2] at A5);(try rw [f2] at h0);(try rw [f2] at h7);(try rw [f2] at i2);(try rw [f2] at m3);have h8:(IntKind.i64.wrap (1*2 ^ min (a9.length:Int).toNat 64))=f7:=f2;have hji23z:(a9.length:Int)≤64→(IntKind.i64.wrap (1*2 ^ (a9.length:Int).toNat))=f7:=shl_small f2;have hji23p:(IntKind.i64.wrap (1*2 ^ min a9.length 64))=f7:=h8;have hji23q:(a9.length:Int)≤64→(IntKind.i64.wrap (1*2 ^ a9.length))=f7:=hji23z;(have hji23r:(IntKind.i64.wrap (2 ^ min a9.length 64))=f7:=by have h_:=hji23p;rw [Int.one_mul] at h_;exact h_);(have hji23s:(a9.length:Int)≤64→(IntKind.i64.wrap (2 ^ a9.length))=f7:=fun hle_=>by have h_:=hji23q hle_;rw [Int.one_mul] at h_;exact h_);(have hji23u:(IntKind.i64.wrap (2 ^ min (a9.length:Int).toNat 64))=f7:=by have h_:=h8;rw [Int.one_mul] at h_;exact h_);(have hji23v:(a9.length:Int)≤64→(IntKind.i64.wrap (2 ^ (a9.length:Int).toNat))=f7:=fun hle_=>by have h_:=hji23z hle_;rw [Int.one_mul] at h_;exact h_);have hji23y:(wrap64 (1*2 ^ min (a9.length:Int).toNat 64))=f7:=(i64_w _).symm.trans h8;have hji23x:(a9.length:Int)≤64→(wrap64 (1*2 ^ (a9.length:Int).toNat))=f7:=fun h_=>(i64_w _).symm.trans (hji23z h_);obtain rfl:=Option.some.inj H
       go_enter Try.func3,Try.ntmps3
       (try go_wp2_with (first|((with_reducible refine gate_callee (f:=14) rfl ?_);refine goesL_ (some 9) rfl rfl Try.func14 zqk rfl #[.slice A0 l0.length c0] rfl zq1 ?_;(with_reducible refine(spec_DrawBooleanOk.calls k _ _ l0 a4 a5 _ ?side1 ?side2 A3.out).mono ?_);(case side1=> exact zq76);(case side2=>exact h2.out);rintro e w24 ⟨g8,g9,rfl,a8,c3,hb⟩;refine⟨_,rfl,?_⟩;have a2:=zqm (Kd.S_lower a8 (below_size zq0));have a1:=zqm (Kd.Q_lower c3 (below_size zq0));replace HB:=zqm (below_step zq0 hb);clear hb a8 c3)|((with_reducible refine gate_dst (N:=3) rfl ?_);(try(refine gate_guard (by rfl) ?_;dsimp only));refine box_event ?hg (N:=3) ?hd (cs:= #[.slice none 0 0,.slice none 0 0]) (t:=26) ?hr ?_;(case hd=>rfl);(case hg=>rfl);(case hr=>first|(go_simp;done)|(go_simp;rfl));intro a3 hg m9 hbox hb;replace a2:=zqm (Kd.S_below zq30 hb);replace a1:=zqm (Kd.Q_below zq25 hb);have b5:=zqm (below_step zq0 hb);have a0:=zqm (hbox);have f9:=zqm ((by rw [hg];exact(below_size zq0):w.heap.size≤a3));have a7:=zqm ((by rw [hg];exact(below_size zq0):w.heap.size≤a3));clear HB;have HB:=b5;clear b5 hb hbox hg;obtain⟨b9,b6,p1⟩:=Kd.S_slice a2.out;subst p1;have u4:m9.cell? ⟨a3,0,none⟩=some (.slice none 0 0):=(blk_cell a0.out 0).trans rfl;have u5:m9.cell? ⟨a3,1,none⟩=some (.slice none 0 0):=(blk_cell a0.out 1).trans rfl;have y1:=blk_frozen a0.out 0;have y2:=blk_frozen a0.out 1;obtain⟨c4,c1,p2,_⟩:=Kd.Q_slice a1.out;subst p2)|((with_reducible refine gate_callee (f:=15) rfl ?_);refine goesL_ (some 11) rfl rfl Try.func15 zqk rfl #[.agg #[.slice b9 a4.length b6,.slice c4 a5.length c1]] rfl zq1 ?_;(with_reducible refine(impl_BooleanOk.calls _ _ a4 _ _ a5 true _ ?side1 ?side2 ?side3 ?side4 A4.out).mono ?_);(case side1=>refine(Kd.S_reads' (e:=24) (base:=w.heap.size) (ok:=fun k_=>some k_≠(.slice c4 a5.length c1:Value).ownBlock) (n:=a4.length) (c:=b6) ?_).2.2;exact zq190);(case side2=>exact(Kd.S_reads' a2.out).2.1);(case side3=>refine(Kd.Q_reads' (e:=3) (base:=w.heap.size) (ok:=fun k_=>True) (n:=a5.length) (c:=c1) ?_).2.2;exact zq147);(case side4=>exact(Kd.Q_reads' a1.out).2.1);rintro e n0 ⟨rfl,hb⟩;refine⟨_,rfl,?_⟩;replace a2:=zqm (Kd.S_below zq190 hb);replace a1:=zqm (Kd.Q_below zq147 hb);replace a0:=zqm (blk_below (g:=a3) (o:= .cells #[.slice b9 a4.length b6,.slice c4 a5.length c1] 26 (0,0)) (by(with_reducible repeat(first|refine blk_drewN ?_ _|refine blk_drew ?_|refine blk_alloc ?_ _));refine blk_put (cs:= #[.slice b9 a4.length b6,.slice none 0 0]) ?_ 1 _ rfl;(with_reducible repeat(first|refine blk_drewN ?_ _|refine blk_drew ?_|refine blk_alloc ?_ _));refine blk_put (cs:= #[.slice none 0 0,.slice none 0 0]) ?_ 0 _ rfl;(with_reducible repeat(first|refine blk_drewN ?_ _|refine blk_drew ?_|refine blk_alloc ?_ _));exact a0.out) hb);replace HB:=zqm (below_step zq13 hb);clear hb;have u6:n0.cell? ⟨a3,0,none⟩=some (.slice b9 a4.length b6):=(blk_cell a0.out 0).trans rfl;have u7:n0.cell? ⟨a3,1,none⟩=some (.slice c4 a5.length c1):=(blk_cell a0.out 1).trans rfl;have y3:=blk_frozen a0.out 0;have y4:=blk_frozen a0.out 1)|((with_reducible refine gate_callee (f:=16) rfl ?_);refine goesL_ (some 14) rfl rfl Try.func16 zqk rfl #[.agg #[.slice b9 a4.length b6,.slice c4 a5.length c1]] rfl zq1 ?_;(with_reducible refine(spec_BooleanOk.calls k _ _ a4 _ _ a5 b2 _ ?side1 ?side2 ?side3 ?side4 A5.out).mono ?_);(case side1=> exact zq21);(case side2=>exact(Kd.S_reads' a2.out).2.1);(case side3=> exact zq24);(case side4=>exact(Kd.Q_reads' a1.out).2.1);rintro e n1 ⟨rfl,hb⟩;refine⟨_,rfl,?_⟩;replace a2:=zqm (Kd.S_below zq30 hb);replace a1:=zqm (Kd.Q_below zq25 hb);replace a0:=zqm (blk_below (g:=a3) (o:= .cells #[.slice b9 a4.length b6,.slice c4 a5.length c1] 26 (0,0)) zq2 hb);replace HB:=zqm (below_step zq13 hb);clear hb;have u9:n1.cell? ⟨a3,0,none⟩=some (.slice b9 a4.length b6):=(blk_cell a0.out 0).trans rfl;have v0:n1.cell? ⟨a3,1,none⟩=some (.slice c4 a5.length c1):=(blk_cell a0.out 1).trans rfl;have y5:=blk_frozen a0.out 0;have y6:=blk_frozen a0.out 1)|((with_reducible refine gate_callee (f:=17) rfl ?_);refine goesL_ (some 17) rfl rfl Try.func17 zqk rfl #[.agg #[.slice b9 a4.length b6,.slice c4 a5.length c1]] rfl zq1 ?_;(with_reducible refine(spec_LogicOk.calls k _ _ a4 _ _ a5 true _ ?side1 ?side2 ?side3 ?side4 h0.out).mono ?_);(case side1=> exact zq21);(case side2=>exact(Kd.S_reads' a2.out).2.1);(case side3=> exact zq24);(case side4=>exact(Kd.Q_reads' a1.out).2.1);rintro e w33 ⟨rfl,hb⟩;refine⟨_,rfl,?_⟩;replace a2:=zqm (Kd.S_below zq30 hb);replace a1:=zqm (Kd.Q_below zq25 hb);replace a0:=zqm (blk_below (g:=a3) (o:= .cells #[.slice b9 a4.length b6,.slice c4 a5.length c1] 26 (0,0)) zq2 hb);replace HB:=zqm (below_step zq13 hb);clear hb)))
       replace a2:=zqm (Kd.S_drew a2.out);replace a1:=zqm (Kd.Q_drew a1.out);replace a0:=zqm (blk_drew a0.out);replace HB:=zqm (below_drew1 HB.out);refine start_ (n:=26) (S:=fun w'=>w'.cell? ⟨a3,0,none⟩=some (.slice b9 a4.length b6)∧w'.cell? ⟨a3,1,none⟩=some (.slice c4 a5.length c1)) (ds:= []) (zqb 26 0) zqk rfl rfl ⟨(blk_cell a0.out 0).trans rfl,(blk_cell a0.out 1).trans rfl⟩ (fun hHeld=>?_);refine with_tabW laws_FnBooleanOk.tab9 laws_FnBooleanOk.bits9 (fun HT_ HW_=>?_);generalize w33.drew=w34 at a2 a1 a0 HB hHeld ⊢;refine pure_ (i:=0) (N:=some 24) (v:=?_) (a':=?_) (zqb 26 1) rfl rfl (any_of HT_.out zqk) (fun _ _ _ h=>h) (Or.inl ⟨by rfl,?_⟩) ?_ ?_;rotate_left
       ·exact zqt
       rotate_left
       ·exact zqs
       refine take_ (i:=1) (N:=some 25) (v:=?_) (a':=?_) (zqb 26 3) rfl rfl (take_ofW HT_.out HW_.out zqk) (fun _ _ _ h=>h) (Or.inl ⟨by rfl,?_⟩) hHeld ?_ ?_;rotate_left
       ·rintro w' ⟨s0,s1⟩;go_simp;with_reducible rfl
       rotate_left
       ·exact zqs
       refine one_ (i:=2) (N:=some 26) (zqb 26 7) rfl rfl (one_of HT_.out zqk) (by decide) (fun K hK=>?_);refine goes_ Try.func19 zqk rfl #[.agg #[.slice b9 a4.length b6,.slice c4 a5.length c1]] (by rfl) rfl rfl zq1 ?_;(with_reducible refine(impl_KeepsOk.calls _ _ a4 _ _ a5 true _ ?side1 ?side2 ?side3 ?side4 h7.out).mono ?_);(case side1=> exact zq21);(case side2=>exact(Kd.S_reads' a2.out).2.1);(case side3=> exact zq24);(case side4=>exact(Kd.Q_reads' a1.out).2.1);rintro e w35 ⟨rfl,hb⟩;refine⟨_,rfl,?_⟩;replace a2:=zqm (Kd.S_below zq30 hb);replace a1:=zqm (Kd.Q_below zq25 hb);replace a0:=zqm (blk_below (g:=a3) (o:= .cells #[.slice b9 a4.length b6,.slice c4 a5.length c1] 26 (0,0)) zq2 hb);replace HB:=zqm (below_step zq13 hb);clear hb;refine hK.out _ _ ⟨(blk_cell a0.out 0).trans rfl,(blk_cell a0.out 1).trans rfl⟩ (fun hHeld=>?_);clear hK K;refine norm_ (a':=?_) ?_ ?_;rotate_left
       ·show Act.put _ (some 26) _=_;exact zqs
       refine pure_ (i:=3) (N:=some 27) (v:=?_) (a':=?_) (zqb 26 15) rfl rfl (any_of HT_.out zqk) (fun _ _ _ h=>h) (Or.inl ⟨by rfl,?_⟩) ?_ ?_;rotate_left
       ·exact zqt
       rotate_left
       ·exact zqs
       refine take_ (i:=4) (N:=some 28) (v:=?_) (a':=?_) (zqb 26 31) rfl rfl (take_ofW HT_.out HW_.out zqk) (fun _ _ _ h=>h) (Or.inl ⟨by rfl,?_⟩) hHeld ?_ ?_;rotate_left
       ·rintro w' ⟨s0,s1⟩;go_simp;with_reducible rfl
       rotate_left
       ·exact zqs
       refine one_ (i:=5) (N:=some 29) (zqb 26 63) rfl rfl (one_of HT_.out zqk) (by decide) (fun K hK=>?_);refine goes_ Try.func20 zqk rfl #[.agg #[.slice b9 a4.length b6,.slice c4 a5.length c1]] (by rfl) rfl rfl zq1 ?_;(with_reducible refine(impl_BlocksOf.calls _ _ a4 _ _ a5 b1 _ ?side1 ?side2 ?side3 ?side4 i2.out).mono ?_);(case side1=> exact zq21);(case side2=>exact(Kd.S_reads' a2.out).2.1);(case side3=> exact zq24);(case side4=>exact(Kd.Q_reads' a1.out).2.1);rintro e w36 ⟨j8,rfl,a8,hb⟩;refine⟨_,rfl,?_⟩;replace a2:=zqm (Kd.S_elder' zq30 (Kd.R_base a8) hb);have g2:=zqm (Kd.Q_elder' zq25 (Kd.R_base a8) hb);have f5:=zqm (Kd.R_lower (Kd.R_new' a8 (Kd.Q_lt zq25)) (below_size zq13));replace a0:=zqm (blk_below (g:=a3) (o:= .cells #[.slice b9 a4.length b6,.slice c4 a5.length c1] 26 (0,0)) zq2 hb);replace HB:=zqm (below_step zq13 hb);clear a1;have a1:=g2;clear g2 hb a8;obtain⟨a0s,a0y,j3⟩:=Kd.R_slice f5.out;(first|subst j3|(injection j3 with g0 h4 g1;have h5:=g0.symm;have h6:=g1.symm;clear g0 h4 g1;subst h5;subst h6));refine hK.out _ _ ⟨(blk_cell a0.out 0).trans rfl,(blk_cell a0.out 1).trans rfl⟩ (fun hHeld=>?_);clear hK K;refine norm_ (a':=?_) ?_ ?_;rotate_left
       ·show Act.put _ (some 29) _=_;exact zqs
       refine pure_ (i:=6) (N:=some 30) (v:=?_) (a':=?_) (zqb 26 127) rfl rfl (any_of HT_.out zqk) (fun _ _ _ h=>h) (Or.inl ⟨by rfl,?_⟩) ?_ ?_;rotate_left
       ·exact zqt
       rotate_left
       ·exact zqs
       refine pure_ (i:=7) (N:=some 31) (v:=?_) (a':=?_) (zqb 26 255) rfl rfl (any_of HT_.out zqk) (fun _ _ _ h=>h) (Or.inl ⟨by rfl,?_⟩) ?_ ?_;rotate_left
       ·exact zqt
       rotate_left
       ·exact zqs
       refine pure_ (i:=8) (N:=some 32) (v:=?_) (a':=?_) (zqb 26 511) rfl rfl (any_of HT_.out zqk) (fun _ _ _ h=>h) (Or.inl ⟨by rfl,?_⟩) ?_ ?_;rotate_left
       ·exact zqt
       rotate_left
       ·exact zqs
       refine pure_ (i:=9) (N:=some 33) (v:=?_) (a':=?_) (zqb 26 1023) rfl rfl (any_of HT_.out zqk) (fun _ _ _ h=>h) (Or.inl ⟨by rfl,?_⟩) ?_ ?_;rotate_left
       ·exact zqt
       rotate_left
       ·exact zqs
       refine pure_ (i:=10) (N:=some 34) (v:=?_) (a':=?_) (zqb 26 2047) rfl rfl (any_of HT_.out zqk) (fun _ _ _ h=>h) (Or.inl ⟨by rfl,?_⟩) ?_ ?_;rotate_left
       ·exact zqt
       rotate_left
       ·exact zqs
       refine pure_ (i:=11) (N:=some 35) (v:=?_) (a':=?_) (zqb 26 4095) rfl rfl (any_of HT_.out zqk) (fun _ _ _ h=>h) (Or.inl ⟨by rfl,?_⟩) ?_ ?_;rotate_left
       ·exact zqt
       rotate_left
       ·exact zqs
       refine pure_ (i:=12) (N:=some 36) (v:=?_) (a':=?_) (zqb 26 8191) rfl rfl (any_of HT_.out zqk) (fun _ _ _ h=>h) (Or.inl ⟨by rfl,?_⟩) ?_ ?_;rotate_left
       ·exact zqt
       rotate_left
       ·exact zqs
       refine pure_ (i:=13) (N:=some 37) (v:=?_) (a':=?_) (zqb 26 16383) rfl rfl (any_of HT_.out zqk) (fun _ _ _ h=>h) (Or.inl ⟨by rfl,?_⟩) ?_ ?_;rotate_left
       ·exact zqt
       rotate_left
       ·exact zqs
       refine pure_ (i:=14) (N:=some 38) (v:=?_) (a':=?_) (zqb 26 32767) rfl rfl (any_of HT_.out zqk) (fun _ _ _ h=>h) (Or.inl ⟨by rfl,?_⟩) ?_ ?_;rotate_left
       ·exact zqt
       rotate_left
       ·exact zqs
       refine pure_ (i:=17) (N:=some 41) (v:=?_) (a':=?_) (zqb 26 163839) rfl rfl (any_of HT_.out zqk) (fun _ _ _ h=>h) (Or.inl ⟨by rfl,?_⟩) ?_ ?_;rotate_left
       ·exact zqt
       rotate_left
       ·exact zqs
       refine take_ (i:=15) (N:=some 39) (v:=?_) (a':=?_) (zqb 26 196607) rfl rfl (take_ofW HT_.out HW_.out zqk) (fun _ _ _ h=>h) (Or.inl ⟨by rfl,?_⟩) hHeld ?_ ?_;rotate_left
       ·rintro w' ⟨s0,s1⟩;go_simp;with_reducible rfl
       rotate_left
       ·exact zqs
       refine pure_ (i:=16) (N:=some 40) (v:=?_) (a':=?_) (zqb 26 262143) rfl rfl (any_of HT_.out zqk) (fun _ _ _ h=>h) (Or.inl ⟨by rfl,?_⟩) ?_ ?_;rotate_left
       ·exact zqt
       rotate_left
       ·exact zqs
       refine take_ (i:=18) (N:=some 42) (v:=?_) (a':=?_) (zqb 26 524287) rfl rfl (take_ofW HT_.out HW_.out zqk) (fun _ _ _ h=>h) (Or.inl ⟨by rfl,?_⟩) hHeld ?_ ?_;rotate_left
       ·rintro w' ⟨s0,s1⟩;go_simp;with_reducible rfl
       rotate_left
       ·exact zqs
       refine one_ (i:=19) (N:=some 43) (zqb 26 1048575) rfl rfl (one_of HT_.out zqk) (by decide) (fun K hK=>?_);refine goes_ Try.func21 zqk rfl #[.slice b9 a4.length b6] (by rfl) rfl rfl zq1 ?_;(with_reducible refine(impl_AtomsOf.calls k _ _ a4 a9 _ ?side1 ?side2 m3.out).mono ?_);(case side1=> exact zq21);(case side2=>exact(Kd.S_reads' a2.out).2.1);rintro e w38 ⟨a1d,rfl,a8,hb⟩;refine⟨_,rfl,?_⟩;replace a2:=zqm (Kd.S_elder' zq30 (Kd.R_base a8) hb);have g2:=zqm (Kd.Q_elder' zq25 (Kd.R_base a8) hb);have b5:=zqm (Kd.R_elder' zq313 (Kd.R_base a8) hb);have k7:=zqm (Kd.R_lower (Kd.R_new' (Kd.R_new' a8 (Kd.Q_lt zq25)) (Kd.R_lt zq313)) (below_size zq13));replace a0:=zqm (blk_below (g:=a3) (o:= .cells #[.slice b9 a4.length b6,.slice c4 a5.length c1] 26 (0,0)) zq2 hb);replace HB:=zqm (below_step zq13 hb);clear a1 f5;have a1:=g2;have f5:=b5;clear g2 b5 hb a8;obtain⟨a0t,a0z,j4⟩:=Kd.R_slice k7.out;(first|subst j4|(injection j4 with g0 h4 g1;have h5:=g0.symm;have h6:=g1.symm;clear g0 h4 g1;subst h5;subst h6));refine hK.out _ _ ⟨(blk_cell a0.out 0).trans rfl,(blk_cell a0.out 1).trans rfl⟩ (fun hHeld=>?_);clear hK K;refine norm_ (a':=?_) ?_ ?_;rotate_left
       ·show Act.put _ (some 43) _=_;exact zqs
       refine pure_ (i:=20) (N:=some 44) (v:=?_) (a':=?_) (zqb 26 2097151) rfl rfl (any_of HT_.out zqk) (fun _ _ _ h=>h) (Or.inl ⟨by rfl,?_⟩) ?_ ?_;rotate_left
       ·exact zqt
       rotate_left
       ·exact zqs
       refine pure_ (i:=21) (N:=some 45) (v:=?_) (a':=?_) (zqb 26 4194303) rfl rfl (any_of HT_.out zqk) (fun _ _ _ h=>h) (Or.inl ⟨by rfl,?_⟩) ?_ ?_;rotate_left
       ·exact zqt
       rotate_left
       ·exact zqs
       refine pure_ (i:=22) (N:=some 46) (v:=?_) (a':=?_) (zqb 26 8388607) rfl rfl (any_of HT_.out zqk) (fun _ _ _ h=>h) (Or.inl ⟨by rfl,?_⟩) ?_ ?_;rotate_left
       ·exact zqt
       rotate_left
       ·exact zqs
       refine pure_ (i:=23) (N:=some 47) (v:=?_) (a':=?_) (zqb 26 16777215) rfl rfl (any_of HT_.out zqk) (fun _ _ _ h=>h) (Or.inl ⟨by rfl,?_⟩) ?_ ?_;rotate_left
       ·exact zqt
       rotate_left
       ·exact zqs
       refine pure_ (i:=24) (N:=some 48) (v:=?_) (a':=?_) (zqb 26 33554431) rfl rfl (any_of HT_.out zqk) (fun _ _ _ h=>h) (Or.inl ⟨by rfl,?_⟩) ?_ ?_;rotate_left
       ·exact zqt
       rotate_left
       ·exact zqs
       refine pure_ (i:=25) (N:=some 2) (v:=?_) (a':=?_) (zqb 26 67108863) rfl rfl (any_of HT_.out zqk) (fun _ _ _ h=>h) (Or.inl ⟨by rfl,?_⟩) ?_ ?_;rotate_left
       ·exact zqt
       rotate_left
       ·exact zqs
       refine done_ (done_of HT_.out zqk) ?_;try go_wp2
       go_ret
       exact⟨by first|rfl|(simp [errW_none,errW_some] <;> rfl)|(simp only [← f2];first|rfl|(simp [errW_none,errW_some] <;> rfl))|(simp [*,errW_none,errW_some] <;> rfl),zq13⟩
      ·replace i5:=Bool.eq_false_iff.mpr i5;subst i5;(have H1:(some true)=some r:=by rw [if_neg (show¬(false=true) by decide)] at H;exact H);clear H;have H:=H1;clear H1;obtain rfl:=Option.some.inj H
       go_enter Try.func3,Try.ntmps3
       (try go_wp2_with (first|((with_reducible refine gate_callee (f:=14) rfl ?_);refine goesL_ (some 9) rfl rfl Try.func14 zqk rfl #[.slice A0 l0.length c0] rfl zq1 ?_;(with_reducible refine(spec_DrawBooleanOk.calls k _ _ l0 a4 a5 _ ?side1 ?side2 A3.out).mono ?_);(case side1=> exact zq76);(case side2=>exact h2.out);rintro e w40 ⟨g8,g9,rfl,a8,c3,hb⟩;refine⟨_,rfl,?_⟩;have a2:=zqm (Kd.S_lower a8 (below_size zq0));have a1:=zqm (Kd.Q_lower c3 (below_size zq0));replace HB:=zqm (below_step zq0 hb);clear hb a8 c3)|((with_reducible refine gate_dst (N:=3) rfl ?_);(try(refine gate_guard (by rfl) ?_;dsimp only));refine box_event ?hg (N:=3) ?hd (cs:= #[.slice none 0 0,.slice none 0 0]) (t:=26) ?hr ?_;(case hd=>rfl);(case hg=>rfl);(case hr=>first|(go_simp;done)|(go_simp;rfl));intro a3 hg n2 hbox hb;replace a2:=zqm (Kd.S_below zq30 hb);replace a1:=zqm (Kd.Q_below zq25 hb);have b5:=zqm (below_step zq0 hb);have a0:=zqm (hbox);have f9:=zqm ((by rw [hg];exact(below_size zq0):w.heap.size≤a3));have a7:=zqm ((by rw [hg];exact(below_size zq0):w.heap.size≤a3));clear HB;have HB:=b5;clear b5 hb hbox hg;obtain⟨d3,c8,p3⟩:=Kd.S_slice a2.out;subst p3;have v1:n2.cell? ⟨a3,0,none⟩=some (.slice none 0 0):=(blk_cell a0.out 0).trans rfl;have v2:n2.cell? ⟨a3,1,none⟩=some (.slice none 0 0):=(blk_cell a0.out 1).trans rfl;have y7:=blk_frozen a0.out 0;have y8:=blk_frozen a0.out 1;obtain⟨d4,c9,p4,_⟩:=Kd.Q_slice a1.out;subst p4)|((with_reducible refine gate_callee (f:=15) rfl ?_);refine goesL_ (some 11) rfl rfl Try.func15 zqk rfl #[.agg #[.slice d3 a4.length c8,.slice d4 a5.length c9]] rfl zq1 ?_;(with_reducible refine(impl_BooleanOk.calls _ _ a4 _ _ a5 false _ ?side1 ?side2 ?side3 ?side4 A4.out).mono ?_);(case side1=>refine(Kd.S_reads' (e:=24) (base:=w.heap.size) (ok:=fun k_=>some k_≠(.slice d4 a5.length c9:Value).ownBlock) (n:=a4.length) (c:=c8) ?_).2.2;exact zq191);(case side2=>exact(Kd.S_reads' a2.out).2.1);(case side3=>refine(Kd.Q_reads' (e:=3) (base:=w.heap.size) (ok:=fun k_=>True) (n:=a5.length) (c:=c9) ?_).2.2;exact zq148);(case side4=>exact(Kd.Q_reads' a1.out).2.1);rintro e n3 ⟨rfl,hb⟩;refine⟨_,rfl,?_⟩;replace a2:=zqm (Kd.S_below zq191 hb);replace a1:=zqm (Kd.Q_below zq148 hb);replace a0:=zqm (blk_below (g:=a3) (o:= .cells #[.slice d3 a4.length c8,.slice d4 a5.length c9] 26 (0,0)) (by(with_reducible repeat(first|refine blk_drewN ?_ _|refine blk_drew ?_|refine blk_alloc ?_ _));refine blk_put (cs:= #[.slice d3 a4.length c8,.slice none 0 0]) ?_ 1 _ rfl;(with_reducible repeat(first|refine blk_drewN ?_ _|refine blk_drew ?_|refine blk_alloc ?_ _));refine blk_put (cs:= #[.slice none 0 0,.slice none 0 0]) ?_ 0 _ rfl;(with_reducible repeat(first|refine blk_drewN ?_ _|refine blk_drew ?_|refine blk_alloc ?_ _));exact a0.out) hb);replace HB:=zqm (below_step zq13 hb);clear hb;have v3:n3.cell? ⟨a3,0,none⟩=some (.slice d3 a4.length c8):=(blk_cell a0.out 0).trans rfl;have v4:n3.cell? ⟨a3,1,none⟩=some (.slice d4 a5.length c9):=(blk_cell a0.out 1).trans rfl;have y9:=blk_frozen a0.out 0;have z0:=blk_frozen a0.out 1)|((with_reducible refine gate_callee (f:=16) rfl ?_);refine goesL_ (some 14) rfl rfl Try.func16 zqk rfl #[.agg #[.slice d3 a4.length c8,.slice d4 a5.length c9]] rfl zq1 ?_;(with_reducible refine(spec_BooleanOk.calls k _ _ a4 _ _ a5 b2 _ ?side1 ?side2 ?side3 ?side4 A5.out).mono ?_);(case side1=> exact zq21);(case side2=>exact(Kd.S_reads' a2.out).2.1);(case side3=> exact zq24);(case side4=>exact(Kd.Q_reads' a1.out).2.1);rintro e n4 ⟨rfl,hb⟩;refine⟨_,rfl,?_⟩;replace a2:=zqm (Kd.S_below zq30 hb);replace a1:=zqm (Kd.Q_below zq25 hb);replace a0:=zqm (blk_below (g:=a3) (o:= .cells #[.slice d3 a4.length c8,.slice d4 a5.length c9] 26 (0,0)) zq2 hb);replace HB:=zqm (below_step zq13 hb);clear hb;have v5:n4.cell? ⟨a3,0,none⟩=some (.slice d3 a4.length c8):=(blk_cell a0.out 0).trans rfl;have v6:n4.cell? ⟨a3,1,none⟩=some (.slice d4 a5.length c9):=(blk_cell a0.out 1).trans rfl;have z1:=blk_frozen a0.out 0;have z2:=blk_frozen a0.out 1)|((with_reducible refine gate_callee (f:=17) rfl ?_);refine goesL_ (some 17) rfl rfl Try.func17 zqk rfl #[.agg #[.slice d3 a4.length c8,.slice d4 a5.length c9]] rfl zq1 ?_;(with_reducible refine(spec_LogicOk.calls k _ _ a4 _ _ a5 true _ ?side1 ?side2 ?side3 ?side4 h0.out).mono ?_);(case side1=> exact zq21);(case side2=>exact(Kd.S_reads' a2.out).2.1);(case side3=> exact zq24);(case side4=>exact(Kd.Q_reads' a1.out).2.1);rintro e w49 ⟨rfl,hb⟩;refine⟨_,rfl,?_⟩;replace a2:=zqm (Kd.S_below zq30 hb);replace a1:=zqm (Kd.Q_below zq25 hb);replace a0:=zqm (blk_below (g:=a3) (o:= .cells #[.slice d3 a4.length c8,.slice d4 a5.length c9] 26 (0,0)) zq2 hb);replace HB:=zqm (below_step zq13 hb);clear hb)))
       replace a2:=zqm (Kd.S_drew a2.out);replace a1:=zqm (Kd.Q_drew a1.out);replace a0:=zqm (blk_drew a0.out);replace HB:=zqm (below_drew1 HB.out);refine start_ (n:=26) (S:=fun w'=>w'.cell? ⟨a3,0,none⟩=some (.slice d3 a4.length c8)∧w'.cell? ⟨a3,1,none⟩=some (.slice d4 a5.length c9)) (ds:= []) (zqb 26 0) zqk rfl rfl ⟨(blk_cell a0.out 0).trans rfl,(blk_cell a0.out 1).trans rfl⟩ (fun hHeld=>?_);refine with_tabW laws_FnBooleanOk.tab9 laws_FnBooleanOk.bits9 (fun HT_ HW_=>?_);generalize w49.drew=w50 at a2 a1 a0 HB hHeld ⊢;refine pure_ (i:=0) (N:=some 24) (v:=?_) (a':=?_) (zqb 26 1) rfl rfl (any_of HT_.out zqk) (fun _ _ _ h=>h) (Or.inl ⟨by rfl,?_⟩) ?_ ?_;rotate_left
       ·exact zqt
       rotate_left
       ·exact zqs
       refine take_ (i:=1) (N:=some 25) (v:=?_) (a':=?_) (zqb 26 3) rfl rfl (take_ofW HT_.out HW_.out zqk) (fun _ _ _ h=>h) (Or.inl ⟨by rfl,?_⟩) hHeld ?_ ?_;rotate_left
       ·rintro w' ⟨s0,s1⟩;go_simp;with_reducible rfl
       rotate_left
       ·exact zqs
       refine one_ (i:=2) (N:=some 26) (zqb 26 7) rfl rfl (one_of HT_.out zqk) (by decide) (fun K hK=>?_);refine goes_ Try.func19 zqk rfl #[.agg #[.slice d3 a4.length c8,.slice d4 a5.length c9]] (by rfl) rfl rfl zq1 ?_;(with_reducible refine(impl_KeepsOk.calls _ _ a4 _ _ a5 true _ ?side1 ?side2 ?side3 ?side4 h7.out).mono ?_);(case side1=> exact zq21);(case side2=>exact(Kd.S_reads' a2.out).2.1);(case side3=> exact zq24);(case side4=>exact(Kd.Q_reads' a1.out).2.1);rintro e w51 ⟨rfl,hb⟩;refine⟨_,rfl,?_⟩;replace a2:=zqm (Kd.S_below zq30 hb);replace a1:=zqm (Kd.Q_below zq25 hb);replace a0:=zqm (blk_below (g:=a3) (o:= .cells #[.slice d3 a4.length c8,.slice d4 a5.length c9] 26 (0,0)) zq2 hb);replace HB:=zqm (below_step zq13 hb);clear hb;refine hK.out _ _ ⟨(blk_cell a0.out 0).trans rfl,(blk_cell a0.out 1).trans rfl⟩ (fun hHeld=>?_);clear hK K;refine norm_ (a':=?_) ?_ ?_;rotate_left
       ·show Act.put _ (some 26) _=_;exact zqs
       refine pure_ (i:=3) (N:=some 27) (v:=?_) (a':=?_) (zqb 26 15) rfl rfl (any_of HT_.out zqk) (fun _ _ _ h=>h) (Or.inl ⟨by rfl,?_⟩) ?_ ?_;rotate_left
       ·exact zqt
       rotate_left
       ·exact zqs
       refine take_ (i:=4) (N:=some 28) (v:=?_) (a':=?_) (zqb 26 31) rfl rfl (take_ofW HT_.out HW_.out zqk) (fun _ _ _ h=>h) (Or.inl ⟨by rfl,?_⟩) hHeld ?_ ?_;rotate_left
       ·rintro w' ⟨s0,s1⟩;go_simp;with_reducible rfl
       rotate_left
       ·exact zqs
       refine one_ (i:=5) (N:=some 29) (zqb 26 63) rfl rfl (one_of HT_.out zqk) (by decide) (fun K hK=>?_);refine goes_ Try.func20 zqk rfl #[.agg #[.slice d3 a4.length c8,.slice d4 a5.length c9]] (by rfl) rfl rfl zq1 ?_;(with_reducible refine(impl_BlocksOf.calls _ _ a4 _ _ a5 b1 _ ?side1 ?side2 ?side3 ?side4 i2.out).mono ?_);(case side1=> exact zq21);(case side2=>exact(Kd.S_reads' a2.out).2.1);(case side3=> exact zq24);(case side4=>exact(Kd.Q_reads' a1.out).2.1);rintro e w52 ⟨j8,rfl,a8,hb⟩;refine⟨_,rfl,?_⟩;replace a2:=zqm (Kd.S_elder' zq30 (Kd.R_base a8) hb);have g2:=zqm (Kd.Q_elder' zq25 (Kd.R_base a8) hb);have f5:=zqm (Kd.R_lower (Kd.R_new' a8 (Kd.Q_lt zq25)) (below_size zq13));replace a0:=zqm (blk_below (g:=a3) (o:= .cells #[.slice d3 a4.length c8,.slice d4 a5.length c9] 26 (0,0)) zq2 hb);replace HB:=zqm (below_step zq13 hb);clear a1;have a1:=g2;clear g2 hb a8;obtain⟨a0u,a1a,j5⟩:=Kd.R_slice f5.out;(first|subst j5|(injection j5 with g0 h4 g1;have h5:=g0.symm;have h6:=g1.symm;clear g0 h4 g1;subst h5;subst h6));refine hK.out _ _ ⟨(blk_cell a0.out 0).trans rfl,(blk_cell a0.out 1).trans rfl⟩ (fun hHeld=>?_);clear hK K;refine norm_ (a':=?_) ?_ ?_;rotate_left
       ·show Act.put _ (some 29) _=_;exact zqs
       refine pure_ (i:=6) (N:=some 30) (v:=?_) (a':=?_) (zqb 26 127) rfl rfl (any_of HT_.out zqk) (fun _ _ _ h=>h) (Or.inl ⟨by rfl,?_⟩) ?_ ?_;rotate_left
       ·exact zqt
       rotate_left
       ·exact zqs
       refine pure_ (i:=7) (N:=some 31) (v:=?_) (a':=?_) (zqb 26 255) rfl rfl (any_of HT_.out zqk) (fun _ _ _ h=>h) (Or.inl ⟨by rfl,?_⟩) ?_ ?_;rotate_left
       ·exact zqt
       rotate_left
       ·exact zqs
       refine pure_ (i:=8) (N:=some 32) (v:=?_) (a':=?_) (zqb 26 511) rfl rfl (any_of HT_.out zqk) (fun _ _ _ h=>h) (Or.inl ⟨by rfl,?_⟩) ?_ ?_;rotate_left
       ·exact zqt
       rotate_left
       ·exact zqs
       refine pure_ (i:=9) (N:=some 33) (v:=?_) (a':=?_) (zqb 26 1023) rfl rfl (any_of HT_.out zqk) (fun _ _ _ h=>h) (Or.inl ⟨by rfl,?_⟩) ?_ ?_;rotate_left
       ·exact zqt
       rotate_left
       ·exact zqs
       refine pure_ (i:=10) (N:=some 34) (v:=?_) (a':=?_) (zqb 26 2047) rfl rfl (any_of HT_.out zqk) (fun _ _ _ h=>h) (Or.inl ⟨by rfl,?_⟩) ?_ ?_;rotate_left
       ·exact zqt
       rotate_left
       ·exact zqs
       refine pure_ (i:=11) (N:=some 35) (v:=?_) (a':=?_) (zqb 26 4095) rfl rfl (any_of HT_.out zqk) (fun _ _ _ h=>h) (Or.inl ⟨by rfl,?_⟩) ?_ ?_;rotate_left
       ·exact zqt
       rotate_left
       ·exact zqs
       refine pure_ (i:=12) (N:=some 36) (v:=?_) (a':=?_) (zqb 26 8191) rfl rfl (any_of HT_.out zqk) (fun _ _ _ h=>h) (Or.inl ⟨by rfl,?_⟩) ?_ ?_;rotate_left
       ·exact zqt
       rotate_left
       ·exact zqs
       refine pure_ (i:=13) (N:=some 37) (v:=?_) (a':=?_) (zqb 26 16383) rfl rfl (any_of HT_.out zqk) (fun _ _ _ h=>h) (Or.inl ⟨by rfl,?_⟩) ?_ ?_;rotate_left
       ·exact zqt
       rotate_left
       ·exact zqs
       refine pure_ (i:=14) (N:=some 38) (v:=undef) (a':=?_) (zqb 26 32767) rfl rfl (any_of HT_.out zqk) (fun _ _ _ h=>h) (Or.inr ⟨by rfl,rfl⟩) ?_ ?_;rotate_left
       ·exact zqs
       refine pure_ (i:=15) (N:=some 39) (v:=undef) (a':=?_) (zqb 26 65535) rfl rfl (any_of HT_.out zqk) (fun _ _ _ h=>h) (Or.inr ⟨by rfl,rfl⟩) ?_ ?_;rotate_left
       ·exact zqs
       refine pure_ (i:=16) (N:=some 40) (v:=undef) (a':=?_) (zqb 26 131071) rfl rfl (any_of HT_.out zqk) (fun _ _ _ h=>h) (Or.inr ⟨by rfl,rfl⟩) ?_ ?_;rotate_left
       ·exact zqs
       refine pure_ (i:=17) (N:=some 41) (v:=undef) (a':=?_) (zqb 26 262143) rfl rfl (any_of HT_.out zqk) (fun _ _ _ h=>h) (Or.inr ⟨by rfl,rfl⟩) ?_ ?_;rotate_left
       ·exact zqs
       refine pure_ (i:=18) (N:=some 42) (v:=undef) (a':=?_) (zqb 26 524287) rfl rfl (any_of HT_.out zqk) (fun _ _ _ h=>h) (Or.inr ⟨by rfl,rfl⟩) ?_ ?_;rotate_left
       ·exact zqs
       refine pure_ (i:=19) (N:=some 43) (v:=undef) (a':=?_) (zqb 26 1048575) rfl rfl (any_of HT_.out zqk) (fun _ _ _ h=>h) (Or.inr ⟨by rfl,rfl⟩) ?_ ?_;rotate_left
       ·exact zqs
       refine pure_ (i:=20) (N:=some 44) (v:=undef) (a':=?_) (zqb 26 2097151) rfl rfl (any_of HT_.out zqk) (fun _ _ _ h=>h) (Or.inr ⟨by rfl,rfl⟩) ?_ ?_;rotate_left
       ·exact zqs
       refine pure_ (i:=21) (N:=some 45) (v:=undef) (a':=?_) (zqb 26 4194303) rfl rfl (any_of HT_.out zqk) (fun _ _ _ h=>h) (Or.inr ⟨by rfl,rfl⟩) ?_ ?_;rotate_left
       ·exact zqs
       refine pure_ (i:=22) (N:=some 46) (v:=undef) (a':=?_) (zqb 26 8388607) rfl rfl (any_of HT_.out zqk) (fun _ _ _ h=>h) (Or.inr ⟨by rfl,rfl⟩) ?_ ?_;rotate_left
       ·exact zqs
       refine pure_ (i:=23) (N:=some 47) (v:=?_) (a':=?_) (zqb 26 16777215) rfl rfl (any_of HT_.out zqk) (fun _ _ _ h=>h) (Or.inl ⟨by rfl,?_⟩) ?_ ?_;rotate_left
       ·exact zqt
       rotate_left
       ·exact zqs
       refine pure_ (i:=24) (N:=some 48) (v:=?_) (a':=?_) (zqb 26 33554431) rfl rfl (any_of HT_.out zqk) (fun _ _ _ h=>h) (Or.inl ⟨by rfl,?_⟩) ?_ ?_;rotate_left
       ·exact zqt
       rotate_left
       ·exact zqs
       refine pure_ (i:=25) (N:=some 2) (v:=?_) (a':=?_) (zqb 26 67108863) rfl rfl (any_of HT_.out zqk) (fun _ _ _ h=>h) (Or.inl ⟨by rfl,?_⟩) ?_ ?_;rotate_left
       ·exact zqt
       rotate_left
       ·exact zqs
       refine done_ (done_of HT_.out zqk) ?_;try go_wp2
       go_ret
       exact⟨zq11,zq13⟩
     ·rw [if_neg g5] at H;(have k9:(a6==((b1.length:Int)==1))=false:=by simpa using g5);(try(have l1:decide (a6=((b1.length:Int)==1))=false:=by simpa using g5));(try(have l2:(a6==((b1.length:Int)==1))=false:=by simpa using g5));(try(have a0r: ¬(a6=((b1.length:Int)==1)):=by simpa using g5));clear g5;obtain rfl:=Option.some.inj H
      go_enter Try.func3,Try.ntmps3
      (try go_wp2_with (first|((with_reducible refine gate_callee (f:=14) rfl ?_);refine goesL_ (some 9) rfl rfl Try.func14 zqk rfl #[.slice A0 l0.length c0] rfl zq1 ?_;(with_reducible refine(spec_DrawBooleanOk.calls k _ _ l0 a4 a5 _ ?side1 ?side2 A3.out).mono ?_);(case side1=> exact zq76);(case side2=>exact h2.out);rintro e w54 ⟨g8,g9,rfl,a8,c3,hb⟩;refine⟨_,rfl,?_⟩;have a2:=zqm (Kd.S_lower a8 (below_size zq0));have a1:=zqm (Kd.Q_lower c3 (below_size zq0));replace HB:=zqm (below_step zq0 hb);clear hb a8 c3)|((with_reducible refine gate_dst (N:=3) rfl ?_);(try(refine gate_guard (by rfl) ?_;dsimp only));refine box_event ?hg (N:=3) ?hd (cs:= #[.slice none 0 0,.slice none 0 0]) (t:=26) ?hr ?_;(case hd=>rfl);(case hg=>rfl);(case hr=>first|(go_simp;done)|(go_simp;rfl));intro a3 hg n5 hbox hb;replace a2:=zqm (Kd.S_below zq30 hb);replace a1:=zqm (Kd.Q_below zq25 hb);have b5:=zqm (below_step zq0 hb);have a0:=zqm (hbox);have f9:=zqm ((by rw [hg];exact(below_size zq0):w.heap.size≤a3));have a7:=zqm ((by rw [hg];exact(below_size zq0):w.heap.size≤a3));clear HB;have HB:=b5;clear b5 hb hbox hg;obtain⟨d5,d0,p5⟩:=Kd.S_slice a2.out;subst p5;have v7:n5.cell? ⟨a3,0,none⟩=some (.slice none 0 0):=(blk_cell a0.out 0).trans rfl;have v8:n5.cell? ⟨a3,1,none⟩=some (.slice none 0 0):=(blk_cell a0.out 1).trans rfl;have z3:=blk_frozen a0.out 0;have z4:=blk_frozen a0.out 1;obtain⟨d6,d1,p6,_⟩:=Kd.Q_slice a1.out;subst p6)|((with_reducible refine gate_callee (f:=15) rfl ?_);refine goesL_ (some 11) rfl rfl Try.func15 zqk rfl #[.agg #[.slice d5 a4.length d0,.slice d6 a5.length d1]] rfl zq1 ?_;(with_reducible refine(impl_BooleanOk.calls _ _ a4 _ _ a5 a6 _ ?side1 ?side2 ?side3 ?side4 A4.out).mono ?_);(case side1=>refine(Kd.S_reads' (e:=24) (base:=w.heap.size) (ok:=fun k_=>some k_≠(.slice d6 a5.length d1:Value).ownBlock) (n:=a4.length) (c:=d0) ?_).2.2;exact zq192);(case side2=>exact(Kd.S_reads' a2.out).2.1);(case side3=>refine(Kd.Q_reads' (e:=3) (base:=w.heap.size) (ok:=fun k_=>True) (n:=a5.length) (c:=d1) ?_).2.2;exact zq149);(case side4=>exact(Kd.Q_reads' a1.out).2.1);rintro e n6 ⟨rfl,hb⟩;refine⟨_,rfl,?_⟩;replace a2:=zqm (Kd.S_below zq192 hb);replace a1:=zqm (Kd.Q_below zq149 hb);replace a0:=zqm (blk_below (g:=a3) (o:= .cells #[.slice d5 a4.length d0,.slice d6 a5.length d1] 26 (0,0)) (by(with_reducible repeat(first|refine blk_drewN ?_ _|refine blk_drew ?_|refine blk_alloc ?_ _));refine blk_put (cs:= #[.slice d5 a4.length d0,.slice none 0 0]) ?_ 1 _ rfl;(with_reducible repeat(first|refine blk_drewN ?_ _|refine blk_drew ?_|refine blk_alloc ?_ _));refine blk_put (cs:= #[.slice none 0 0,.slice none 0 0]) ?_ 0 _ rfl;(with_reducible repeat(first|refine blk_drewN ?_ _|refine blk_drew ?_|refine blk_alloc ?_ _));exact a0.out) hb);replace HB:=zqm (below_step zq13 hb);clear hb;have v9:n6.cell? ⟨a3,0,none⟩=some (.slice d5 a4.length d0):=(blk_cell a0.out 0).trans rfl;have w0:n6.cell? ⟨a3,1,none⟩=some (.slice d6 a5.length d1):=(blk_cell a0.out 1).trans rfl;have z5:=blk_frozen a0.out 0;have z6:=blk_frozen a0.out 1)|((with_reducible refine gate_callee (f:=16) rfl ?_);refine goesL_ (some 14) rfl rfl Try.func16 zqk rfl #[.agg #[.slice d5 a4.length d0,.slice d6 a5.length d1]] rfl zq1 ?_;(with_reducible refine(spec_BooleanOk.calls k _ _ a4 _ _ a5 b2 _ ?side1 ?side2 ?side3 ?side4 A5.out).mono ?_);(case side1=> exact zq21);(case side2=>exact(Kd.S_reads' a2.out).2.1);(case side3=> exact zq24);(case side4=>exact(Kd.Q_reads' a1.out).2.1);rintro e n7 ⟨rfl,hb⟩;refine⟨_,rfl,?_⟩;replace a2:=zqm (Kd.S_below zq30 hb);replace a1:=zqm (Kd.Q_below zq25 hb);replace a0:=zqm (blk_below (g:=a3) (o:= .cells #[.slice d5 a4.length d0,.slice d6 a5.length d1] 26 (0,0)) zq2 hb);replace HB:=zqm (below_step zq13 hb);clear hb;have w1:n7.cell? ⟨a3,0,none⟩=some (.slice d5 a4.length d0):=(blk_cell a0.out 0).trans rfl;have w2:n7.cell? ⟨a3,1,none⟩=some (.slice d6 a5.length d1):=(blk_cell a0.out 1).trans rfl;have z7:=blk_frozen a0.out 0;have z8:=blk_frozen a0.out 1)|((with_reducible refine gate_callee (f:=17) rfl ?_);refine goesL_ (some 17) rfl rfl Try.func17 zqk rfl #[.agg #[.slice d5 a4.length d0,.slice d6 a5.length d1]] rfl zq1 ?_;(with_reducible refine(spec_LogicOk.calls k _ _ a4 _ _ a5 true _ ?side1 ?side2 ?side3 ?side4 h0.out).mono ?_);(case side1=> exact zq21);(case side2=>exact(Kd.S_reads' a2.out).2.1);(case side3=> exact zq24);(case side4=>exact(Kd.Q_reads' a1.out).2.1);rintro e w63 ⟨rfl,hb⟩;refine⟨_,rfl,?_⟩;replace a2:=zqm (Kd.S_below zq30 hb);replace a1:=zqm (Kd.Q_below zq25 hb);replace a0:=zqm (blk_below (g:=a3) (o:= .cells #[.slice d5 a4.length d0,.slice d6 a5.length d1] 26 (0,0)) zq2 hb);replace HB:=zqm (below_step zq13 hb);clear hb)))
      replace a2:=zqm (Kd.S_drew a2.out);replace a1:=zqm (Kd.Q_drew a1.out);replace a0:=zqm (blk_drew a0.out);replace HB:=zqm (below_drew1 HB.out);refine start_ (n:=26) (S:=fun w'=>w'.cell? ⟨a3,0,none⟩=some (.slice d5 a4.length d0)∧w'.cell? ⟨a3,1,none⟩=some (.slice d6 a5.length d1)) (ds:= []) (zqb 26 0) zqk rfl rfl ⟨(blk_cell a0.out 0).trans rfl,(blk_cell a0.out 1).trans rfl⟩ (fun hHeld=>?_);refine with_tabW laws_FnBooleanOk.tab9 laws_FnBooleanOk.bits9 (fun HT_ HW_=>?_);generalize w63.drew=w64 at a2 a1 a0 HB hHeld ⊢;refine pure_ (i:=0) (N:=some 24) (v:=?_) (a':=?_) (zqb 26 1) rfl rfl (any_of HT_.out zqk) (fun _ _ _ h=>h) (Or.inl ⟨by rfl,?_⟩) ?_ ?_;rotate_left
      ·exact zqt
      rotate_left
      ·exact zqs
      refine take_ (i:=1) (N:=some 25) (v:=?_) (a':=?_) (zqb 26 3) rfl rfl (take_ofW HT_.out HW_.out zqk) (fun _ _ _ h=>h) (Or.inl ⟨by rfl,?_⟩) hHeld ?_ ?_;rotate_left
      ·rintro w' ⟨s0,s1⟩;go_simp;with_reducible rfl
      rotate_left
      ·exact zqs
      refine one_ (i:=2) (N:=some 26) (zqb 26 7) rfl rfl (one_of HT_.out zqk) (by decide) (fun K hK=>?_);refine goes_ Try.func19 zqk rfl #[.agg #[.slice d5 a4.length d0,.slice d6 a5.length d1]] (by rfl) rfl rfl zq1 ?_;(with_reducible refine(impl_KeepsOk.calls _ _ a4 _ _ a5 true _ ?side1 ?side2 ?side3 ?side4 h7.out).mono ?_);(case side1=> exact zq21);(case side2=>exact(Kd.S_reads' a2.out).2.1);(case side3=> exact zq24);(case side4=>exact(Kd.Q_reads' a1.out).2.1);rintro e w65 ⟨rfl,hb⟩;refine⟨_,rfl,?_⟩;replace a2:=zqm (Kd.S_below zq30 hb);replace a1:=zqm (Kd.Q_below zq25 hb);replace a0:=zqm (blk_below (g:=a3) (o:= .cells #[.slice d5 a4.length d0,.slice d6 a5.length d1] 26 (0,0)) zq2 hb);replace HB:=zqm (below_step zq13 hb);clear hb;refine hK.out _ _ ⟨(blk_cell a0.out 0).trans rfl,(blk_cell a0.out 1).trans rfl⟩ (fun hHeld=>?_);clear hK K;refine norm_ (a':=?_) ?_ ?_;rotate_left
      ·show Act.put _ (some 26) _=_;exact zqs
      refine pure_ (i:=3) (N:=some 27) (v:=?_) (a':=?_) (zqb 26 15) rfl rfl (any_of HT_.out zqk) (fun _ _ _ h=>h) (Or.inl ⟨by rfl,?_⟩) ?_ ?_;rotate_left
      ·exact zqt
      rotate_left
      ·exact zqs
      refine take_ (i:=4) (N:=some 28) (v:=?_) (a':=?_) (zqb 26 31) rfl rfl (take_ofW HT_.out HW_.out zqk) (fun _ _ _ h=>h) (Or.inl ⟨by rfl,?_⟩) hHeld ?_ ?_;rotate_left
      ·rintro w' ⟨s0,s1⟩;go_simp;with_reducible rfl
      rotate_left
      ·exact zqs
      refine one_ (i:=5) (N:=some 29) (zqb 26 63) rfl rfl (one_of HT_.out zqk) (by decide) (fun K hK=>?_);refine goes_ Try.func20 zqk rfl #[.agg #[.slice d5 a4.length d0,.slice d6 a5.length d1]] (by rfl) rfl rfl zq1 ?_;(with_reducible refine(impl_BlocksOf.calls _ _ a4 _ _ a5 b1 _ ?side1 ?side2 ?side3 ?side4 i2.out).mono ?_);(case side1=> exact zq21);(case side2=>exact(Kd.S_reads' a2.out).2.1);(case side3=> exact zq24);(case side4=>exact(Kd.Q_reads' a1.out).2.1);rintro e w66 ⟨j8,rfl,a8,hb⟩;refine⟨_,rfl,?_⟩;replace a2:=zqm (Kd.S_elder' zq30 (Kd.R_base a8) hb);have g2:=zqm (Kd.Q_elder' zq25 (Kd.R_base a8) hb);have f5:=zqm (Kd.R_lower (Kd.R_new' a8 (Kd.Q_lt zq25)) (below_size zq13));replace a0:=zqm (blk_below (g:=a3) (o:= .cells #[.slice d5 a4.length d0,.slice d6 a5.length d1] 26 (0,0)) zq2 hb);replace HB:=zqm (below_step zq13 hb);clear a1;have a1:=g2;clear g2 hb a8;obtain⟨a0v,a1b,j6⟩:=Kd.R_slice f5.out;(first|subst j6|(injection j6 with g0 h4 g1;have h5:=g0.symm;have h6:=g1.symm;clear g0 h4 g1;subst h5;subst h6));refine hK.out _ _ ⟨(blk_cell a0.out 0).trans rfl,(blk_cell a0.out 1).trans rfl⟩ (fun hHeld=>?_);clear hK K;refine norm_ (a':=?_) ?_ ?_;rotate_left
      ·show Act.put _ (some 29) _=_;exact zqs
      refine pure_ (i:=6) (N:=some 30) (v:=?_) (a':=?_) (zqb 26 127) rfl rfl (any_of HT_.out zqk) (fun _ _ _ h=>h) (Or.inl ⟨by rfl,?_⟩) ?_ ?_;rotate_left
      ·exact zqt
      rotate_left
      ·exact zqs
      refine pure_ (i:=7) (N:=some 31) (v:=?_) (a':=?_) (zqb 26 255) rfl rfl (any_of HT_.out zqk) (fun _ _ _ h=>h) (Or.inl ⟨by rfl,?_⟩) ?_ ?_;rotate_left
      ·exact zqt
      rotate_left
      ·exact zqs
      refine pure_ (i:=8) (N:=some 32) (v:=?_) (a':=?_) (zqb 26 511) rfl rfl (any_of HT_.out zqk) (fun _ _ _ h=>h) (Or.inl ⟨by rfl,?_⟩) ?_ ?_;rotate_left
      ·exact zqt
      rotate_left
      ·exact zqs
      refine pure_ (i:=9) (N:=some 33) (v:=?_) (a':=?_) (zqb 26 1023) rfl rfl (any_of HT_.out zqk) (fun _ _ _ h=>h) (Or.inl ⟨by rfl,?_⟩) ?_ ?_;rotate_left
      ·exact zqt
      rotate_left
      ·exact zqs
      refine pure_ (i:=10) (N:=some 34) (v:=?_) (a':=?_) (zqb 26 2047) rfl rfl (any_of HT_.out zqk) (fun _ _ _ h=>h) (Or.inl ⟨by rfl,?_⟩) ?_ ?_;rotate_left
      ·exact zqt
      rotate_left
      ·exact zqs
      refine pure_ (i:=11) (N:=some 35) (v:=undef) (a':=?_) (zqb 26 4095) rfl rfl (any_of HT_.out zqk) (fun _ _ _ h=>h) (Or.inr ⟨by rfl,rfl⟩) ?_ ?_;rotate_left
      ·exact zqs
      refine pure_ (i:=12) (N:=some 36) (v:=undef) (a':=?_) (zqb 26 8191) rfl rfl (any_of HT_.out zqk) (fun _ _ _ h=>h) (Or.inr ⟨by rfl,rfl⟩) ?_ ?_;rotate_left
      ·exact zqs
      refine pure_ (i:=13) (N:=some 37) (v:=undef) (a':=?_) (zqb 26 16383) rfl rfl (any_of HT_.out zqk) (fun _ _ _ h=>h) (Or.inr ⟨by rfl,rfl⟩) ?_ ?_;rotate_left
      ·exact zqs
      refine pure_ (i:=14) (N:=some 38) (v:=undef) (a':=?_) (zqb 26 32767) rfl rfl (any_of HT_.out zqk) (fun _ _ _ h=>h) (Or.inr ⟨by rfl,rfl⟩) ?_ ?_;rotate_left
      ·exact zqs
      refine pure_ (i:=15) (N:=some 39) (v:=undef) (a':=?_) (zqb 26 65535) rfl rfl (any_of HT_.out zqk) (fun _ _ _ h=>h) (Or.inr ⟨by rfl,rfl⟩) ?_ ?_;rotate_left
      ·exact zqs
      refine pure_ (i:=16) (N:=some 40) (v:=undef) (a':=?_) (zqb 26 131071) rfl rfl (any_of HT_.out zqk) (fun _ _ _ h=>h) (Or.inr ⟨by rfl,rfl⟩) ?_ ?_;rotate_left
      ·exact zqs
      refine pure_ (i:=17) (N:=some 41) (v:=undef) (a':=?_) (zqb 26 262143) rfl rfl (any_of HT_.out zqk) (fun _ _ _ h=>h) (Or.inr ⟨by rfl,rfl⟩) ?_ ?_;rotate_left
      ·exact zqs
      refine pure_ (i:=18) (N:=some 42) (v:=undef) (a':=?_) (zqb 26 524287) rfl rfl (any_of HT_.out zqk) (fun _ _ _ h=>h) (Or.inr ⟨by rfl,rfl⟩) ?_ ?_;rotate_left
      ·exact zqs
      refine pure_ (i:=19) (N:=some 43) (v:=undef) (a':=?_) (zqb 26 1048575) rfl rfl (any_of HT_.out zqk) (fun _ _ _ h=>h) (Or.inr ⟨by rfl,rfl⟩) ?_ ?_;rotate_left
      ·exact zqs
      refine pure_ (i:=20) (N:=some 44) (v:=undef) (a':=?_) (zqb 26 2097151) rfl rfl (any_of HT_.out zqk) (fun _ _ _ h=>h) (Or.inr ⟨by rfl,rfl⟩) ?_ ?_;rotate_left
      ·exact zqs
      refine pure_ (i:=21) (N:=some 45) (v:=undef) (a':=?_) (zqb 26 4194303) rfl rfl (any_of HT_.out zqk) (fun _ _ _ h=>h) (Or.inr ⟨by rfl,rfl⟩) ?_ ?_;rotate_left
      ·exact zqs
      refine pure_ (i:=22) (N:=some 46) (v:=undef) (a':=?_) (zqb 26 8388607) rfl rfl (any_of HT_.out zqk) (fun _ _ _ h=>h) (Or.inr ⟨by rfl,rfl⟩) ?_ ?_;rotate_left
      ·exact zqs
      refine pure_ (i:=23) (N:=some 47) (v:=undef) (a':=?_) (zqb 26 16777215) rfl rfl (any_of HT_.out zqk) (fun _ _ _ h=>h) (Or.inr ⟨by rfl,rfl⟩) ?_ ?_;rotate_left
      ·exact zqs
      refine pure_ (i:=24) (N:=some 48) (v:=?_) (a':=?_) (zqb 26 33554431) rfl rfl (any_of HT_.out zqk) (fun _ _ _ h=>h) (Or.inl ⟨by rfl,?_⟩) ?_ ?_;rotate_left
      ·exact zqt
      rotate_left
      ·exact zqs
      refine pure_ (i:=25) (N:=some 2) (v:=?_) (a':=?_) (zqb 26 67108863) rfl rfl (any_of HT_.out zqk) (fun _ _ _ h=>h) (Or.inl ⟨by rfl,?_⟩) ?_ ?_;rotate_left
      ·exact zqt
      rotate_left
      ·exact zqs
      refine done_ (done_of HT_.out zqk) ?_;try go_wp2
      go_ret
      exact⟨zq11,zq13⟩
    ·replace i4:=Bool.eq_false_iff.mpr i4;subst i4;(have H1:(if(a6==false)=true then(if a6=true then((impl_AtomsOf.f k a4).bind fun b0=>(some ((a5.length:Int)==(shl .i64 1 (b0.length:Int))))) else(some true)) else(some false))=some r:=by rw [if_neg (show¬(false=true) by decide)] at H;exact H);clear H;have H:=H1;clear H1
     by_cases g6:(a6==false)=true
     ·rw [if_pos g6] at H;have l3:(a6==false)=true:=g6;(try(have l4:decide (a6=false)=true:=by simpa using g6));(try(have l5:(a6==false)=true:=by simpa using g6));clear g6
      by_cases i6:a6=true
      ·subst i6;(have H1:((impl_AtomsOf.f k a4).bind fun b0=>(some ((a5.length:Int)==(shl .i64 1 (b0.length:Int)))))=some r:=by rw [if_pos rfl] at H;exact H);clear H;have H:=H1;clear H1;replace H:=Option.bind_eq_some_iff.mp H;obtain⟨b0,j1,H⟩:=H;replace H:(some ((a5.length:Int)==(shl .i64 1 (b0.length:Int))))=some r:=H;have m7:=zqm j1;clear j1;obtain⟨f8,f3⟩: ∃j_:Int,(shl .i64 1 (b0.length:Int))=j_:=⟨_,rfl⟩;(replace H:(some ((a5.length:Int)==(f8)))=some r:=by first|(rw [f3] at H;exact H)|(simp only [f3] at H ⊢;exact H));(try rw [f3] at A3);(try rw [f3] at A4);(try rw [f3] at A5);(try rw [f3] at h0);(try rw [f3] at h7);(try rw [f3] at m7);have h9:(IntKind.i64.wrap (1*2 ^ min (b0.length:Int).toNat 64))=f8:=f3;have hji71z:(b0.length:Int)≤64→(IntKind.i64.wrap (1*2 ^ (b0.length:Int).toNat))=f8:=shl_small f3;have hji71p:(IntKind.i64.wrap (1*2 ^ min b0.length 64))=f8:=h9;have hji71q:(b0.length:Int)≤64→(IntKind.i64.wrap (1*2 ^ b0.length))=f8:=hji71z;(have hji71r:(IntKind.i64.wrap (2 ^ min b0.length 64))=f8:=by have h_:=hji71p;rw [Int.one_mul] at h_;exact h_);(have hji71s:(b0.length:Int)≤64→(IntKind.i64.wrap (2 ^ b0.length))=f8:=fun hle_=>by have h_:=hji71q hle_;rw [Int.one_mul] at h_;exact h_);(have hji71u:(IntKind.i64.wrap (2 ^ min (b0.length:Int).toNat 64))=f8:=by have h_:=h9;rw [Int.one_mul] at h_;exact h_);(have hji71v:(b0.length:Int)≤64→(IntKind.i64.wrap (2 ^ (b0.length:Int).toNat))=f8:=fun hle_=>by have h_:=hji71z hle_;rw [Int.one_mul] at h_;exact h_);have hji71y:(wrap64 (1*2 ^ min (b0.length:Int).toNat 64))=f8:=(i64_w _).symm.trans h9;have hji71x:(b0.length:Int)≤64→(wrap64 (1*2 ^ (b0.length:Int).toNat))=f8:=fun h_=>(i64_w _).symm.trans (hji71z h_);obtain rfl:=Option.some.inj H
       go_enter Try.func3,Try.ntmps3
       (try go_wp2_with (first|((with_reducible refine gate_callee (f:=14) rfl ?_);refine goesL_ (some 9) rfl rfl Try.func14 zqk rfl #[.slice A0 l0.length c0] rfl zq1 ?_;(with_reducible refine(spec_DrawBooleanOk.calls k _ _ l0 a4 a5 _ ?side1 ?side2 A3.out).mono ?_);(case side1=> exact zq76);(case side2=>exact h2.out);rintro e w72 ⟨g8,g9,rfl,a8,c3,hb⟩;refine⟨_,rfl,?_⟩;have a2:=zqm (Kd.S_lower a8 (below_size zq0));have a1:=zqm (Kd.Q_lower c3 (below_size zq0));replace HB:=zqm (below_step zq0 hb);clear hb a8 c3)|((with_reducible refine gate_dst (N:=3) rfl ?_);(try(refine gate_guard (by rfl) ?_;dsimp only));refine box_event ?hg (N:=3) ?hd (cs:= #[.slice none 0 0,.slice none 0 0]) (t:=26) ?hr ?_;(case hd=>rfl);(case hg=>rfl);(case hr=>first|(go_simp;done)|(go_simp;rfl));intro a3 hg n8 hbox hb;replace a2:=zqm (Kd.S_below zq30 hb);replace a1:=zqm (Kd.Q_below zq25 hb);have b5:=zqm (below_step zq0 hb);have a0:=zqm (hbox);have f9:=zqm ((by rw [hg];exact(below_size zq0):w.heap.size≤a3));have a7:=zqm ((by rw [hg];exact(below_size zq0):w.heap.size≤a3));clear HB;have HB:=b5;clear b5 hb hbox hg;obtain⟨d7,d2,p7⟩:=Kd.S_slice a2.out;subst p7;have w3:n8.cell? ⟨a3,0,none⟩=some (.slice none 0 0):=(blk_cell a0.out 0).trans rfl;have w4:n8.cell? ⟨a3,1,none⟩=some (.slice none 0 0):=(blk_cell a0.out 1).trans rfl;have z9:=blk_frozen a0.out 0;have a0a:=blk_frozen a0.out 1;obtain⟨e4,d8,p8,_⟩:=Kd.Q_slice a1.out;subst p8)|((with_reducible refine gate_callee (f:=15) rfl ?_);refine goesL_ (some 11) rfl rfl Try.func15 zqk rfl #[.agg #[.slice d7 a4.length d2,.slice e4 a5.length d8]] rfl zq1 ?_;(with_reducible refine(impl_BooleanOk.calls _ _ a4 _ _ a5 true _ ?side1 ?side2 ?side3 ?side4 A4.out).mono ?_);(case side1=>refine(Kd.S_reads' (e:=24) (base:=w.heap.size) (ok:=fun k_=>some k_≠(.slice e4 a5.length d8:Value).ownBlock) (n:=a4.length) (c:=d2) ?_).2.2;exact zq193);(case side2=>exact(Kd.S_reads' a2.out).2.1);(case side3=>refine(Kd.Q_reads' (e:=3) (base:=w.heap.size) (ok:=fun k_=>True) (n:=a5.length) (c:=d8) ?_).2.2;exact zq150);(case side4=>exact(Kd.Q_reads' a1.out).2.1);rintro e n9 ⟨rfl,hb⟩;refine⟨_,rfl,?_⟩;replace a2:=zqm (Kd.S_below zq193 hb);replace a1:=zqm (Kd.Q_below zq150 hb);replace a0:=zqm (blk_below (g:=a3) (o:= .cells #[.slice d7 a4.length d2,.slice e4 a5.length d8] 26 (0,0)) (by(with_reducible repeat(first|refine blk_drewN ?_ _|refine blk_drew ?_|refine blk_alloc ?_ _));refine blk_put (cs:= #[.slice d7 a4.length d2,.slice none 0 0]) ?_ 1 _ rfl;(with_reducible repeat(first|refine blk_drewN ?_ _|refine blk_drew ?_|refine blk_alloc ?_ _));refine blk_put (cs:= #[.slice none 0 0,.slice none 0 0]) ?_ 0 _ rfl;(with_reducible repeat(first|refine blk_drewN ?_ _|refine blk_drew ?_|refine blk_alloc ?_ _));exact a0.out) hb);replace HB:=zqm (below_step zq13 hb);clear hb;have w5:n9.cell? ⟨a3,0,none⟩=some (.slice d7 a4.length d2):=(blk_cell a0.out 0).trans rfl;have w6:n9.cell? ⟨a3,1,none⟩=some (.slice e4 a5.length d8):=(blk_cell a0.out 1).trans rfl;have a0b:=blk_frozen a0.out 0;have a0c:=blk_frozen a0.out 1)|((with_reducible refine gate_callee (f:=16) rfl ?_);refine goesL_ (some 14) rfl rfl Try.func16 zqk rfl #[.agg #[.slice d7 a4.length d2,.slice e4 a5.length d8]] rfl zq1 ?_;(with_reducible refine(spec_BooleanOk.calls k _ _ a4 _ _ a5 b2 _ ?side1 ?side2 ?side3 ?side4 A5.out).mono ?_);(case side1=> exact zq21);(case side2=>exact(Kd.S_reads' a2.out).2.1);(case side3=> exact zq24);(case side4=>exact(Kd.Q_reads' a1.out).2.1);rintro e o0 ⟨rfl,hb⟩;refine⟨_,rfl,?_⟩;replace a2:=zqm (Kd.S_below zq30 hb);replace a1:=zqm (Kd.Q_below zq25 hb);replace a0:=zqm (blk_below (g:=a3) (o:= .cells #[.slice d7 a4.length d2,.slice e4 a5.length d8] 26 (0,0)) zq2 hb);replace HB:=zqm (below_step zq13 hb);clear hb;have w9:o0.cell? ⟨a3,0,none⟩=some (.slice d7 a4.length d2):=(blk_cell a0.out 0).trans rfl;have x0:o0.cell? ⟨a3,1,none⟩=some (.slice e4 a5.length d8):=(blk_cell a0.out 1).trans rfl;have a0d:=blk_frozen a0.out 0;have a0e:=blk_frozen a0.out 1)|((with_reducible refine gate_callee (f:=17) rfl ?_);refine goesL_ (some 17) rfl rfl Try.func17 zqk rfl #[.agg #[.slice d7 a4.length d2,.slice e4 a5.length d8]] rfl zq1 ?_;(with_reducible refine(spec_LogicOk.calls k _ _ a4 _ _ a5 true _ ?side1 ?side2 ?side3 ?side4 h0.out).mono ?_);(case side1=> exact zq21);(case side2=>exact(Kd.S_reads' a2.out).2.1);(case side3=> exact zq24);(case side4=>exact(Kd.Q_reads' a1.out).2.1);rintro e w81 ⟨rfl,hb⟩;refine⟨_,rfl,?_⟩;replace a2:=zqm (Kd.S_below zq30 hb);replace a1:=zqm (Kd.Q_below zq25 hb);replace a0:=zqm (blk_below (g:=a3) (o:= .cells #[.slice d7 a4.length d2,.slice e4 a5.length d8] 26 (0,0)) zq2 hb);replace HB:=zqm (below_step zq13 hb);clear hb)))
       replace a2:=zqm (Kd.S_drew a2.out);replace a1:=zqm (Kd.Q_drew a1.out);replace a0:=zqm (blk_drew a0.out);replace HB:=zqm (below_drew1 HB.out);refine start_ (n:=26) (S:=fun w'=>w'.cell? ⟨a3,0,none⟩=some (.slice d7 a4.length d2)∧w'.cell? ⟨a3,1,none⟩=some (.slice e4 a5.length d8)) (ds:= []) (zqb 26 0) zqk rfl rfl ⟨(blk_cell a0.out 0).trans rfl,(blk_cell a0.out 1).trans rfl⟩ (fun hHeld=>?_);refine with_tabW laws_FnBooleanOk.tab9 laws_FnBooleanOk.bits9 (fun HT_ HW_=>?_);generalize w81.drew=w82 at a2 a1 a0 HB hHeld ⊢;refine pure_ (i:=0) (N:=some 24) (v:=?_) (a':=?_) (zqb 26 1) rfl rfl (any_of HT_.out zqk) (fun _ _ _ h=>h) (Or.inl ⟨by rfl,?_⟩) ?_ ?_;rotate_left
       ·exact zqt
       rotate_left
       ·exact zqs
       refine take_ (i:=1) (N:=some 25) (v:=?_) (a':=?_) (zqb 26 3) rfl rfl (take_ofW HT_.out HW_.out zqk) (fun _ _ _ h=>h) (Or.inl ⟨by rfl,?_⟩) hHeld ?_ ?_;rotate_left
       ·rintro w' ⟨s0,s1⟩;go_simp;with_reducible rfl
       rotate_left
       ·exact zqs
       refine one_ (i:=2) (N:=some 26) (zqb 26 7) rfl rfl (one_of HT_.out zqk) (by decide) (fun K hK=>?_);refine goes_ Try.func19 zqk rfl #[.agg #[.slice d7 a4.length d2,.slice e4 a5.length d8]] (by rfl) rfl rfl zq1 ?_;(with_reducible refine(impl_KeepsOk.calls _ _ a4 _ _ a5 false _ ?side1 ?side2 ?side3 ?side4 h7.out).mono ?_);(case side1=> exact zq21);(case side2=>exact(Kd.S_reads' a2.out).2.1);(case side3=> exact zq24);(case side4=>exact(Kd.Q_reads' a1.out).2.1);rintro e w83 ⟨rfl,hb⟩;refine⟨_,rfl,?_⟩;replace a2:=zqm (Kd.S_below zq30 hb);replace a1:=zqm (Kd.Q_below zq25 hb);replace a0:=zqm (blk_below (g:=a3) (o:= .cells #[.slice d7 a4.length d2,.slice e4 a5.length d8] 26 (0,0)) zq2 hb);replace HB:=zqm (below_step zq13 hb);clear hb;refine hK.out _ _ ⟨(blk_cell a0.out 0).trans rfl,(blk_cell a0.out 1).trans rfl⟩ (fun hHeld=>?_);clear hK K;refine norm_ (a':=?_) ?_ ?_;rotate_left
       ·show Act.put _ (some 26) _=_;exact zqs
       refine pure_ (i:=3) (N:=some 27) (v:=?_) (a':=?_) (zqb 26 15) rfl rfl (any_of HT_.out zqk) (fun _ _ _ h=>h) (Or.inl ⟨by rfl,?_⟩) ?_ ?_;rotate_left
       ·exact zqt
       rotate_left
       ·exact zqs
       refine pure_ (i:=4) (N:=some 28) (v:=undef) (a':=?_) (zqb 26 31) rfl rfl (any_of HT_.out zqk) (fun _ _ _ h=>h) (Or.inr ⟨by rfl,rfl⟩) ?_ ?_;rotate_left
       ·exact zqs
       refine pure_ (i:=5) (N:=some 29) (v:=undef) (a':=?_) (zqb 26 63) rfl rfl (any_of HT_.out zqk) (fun _ _ _ h=>h) (Or.inr ⟨by rfl,rfl⟩) ?_ ?_;rotate_left
       ·exact zqs
       refine pure_ (i:=6) (N:=some 30) (v:=undef) (a':=?_) (zqb 26 127) rfl rfl (any_of HT_.out zqk) (fun _ _ _ h=>h) (Or.inr ⟨by rfl,rfl⟩) ?_ ?_;rotate_left
       ·exact zqs
       refine pure_ (i:=7) (N:=some 31) (v:=undef) (a':=?_) (zqb 26 255) rfl rfl (any_of HT_.out zqk) (fun _ _ _ h=>h) (Or.inr ⟨by rfl,rfl⟩) ?_ ?_;rotate_left
       ·exact zqs
       refine pure_ (i:=8) (N:=some 32) (v:=?_) (a':=?_) (zqb 26 511) rfl rfl (any_of HT_.out zqk) (fun _ _ _ h=>h) (Or.inl ⟨by rfl,?_⟩) ?_ ?_;rotate_left
       ·exact zqt
       rotate_left
       ·exact zqs
       refine pure_ (i:=9) (N:=some 33) (v:=?_) (a':=?_) (zqb 26 1023) rfl rfl (any_of HT_.out zqk) (fun _ _ _ h=>h) (Or.inl ⟨by rfl,?_⟩) ?_ ?_;rotate_left
       ·exact zqt
       rotate_left
       ·exact zqs
       refine pure_ (i:=10) (N:=some 34) (v:=?_) (a':=?_) (zqb 26 2047) rfl rfl (any_of HT_.out zqk) (fun _ _ _ h=>h) (Or.inl ⟨by rfl,?_⟩) ?_ ?_;rotate_left
       ·exact zqt
       rotate_left
       ·exact zqs
       refine pure_ (i:=11) (N:=some 35) (v:=?_) (a':=?_) (zqb 26 4095) rfl rfl (any_of HT_.out zqk) (fun _ _ _ h=>h) (Or.inl ⟨by rfl,?_⟩) ?_ ?_;rotate_left
       ·exact zqt
       rotate_left
       ·exact zqs
       refine pure_ (i:=12) (N:=some 36) (v:=?_) (a':=?_) (zqb 26 8191) rfl rfl (any_of HT_.out zqk) (fun _ _ _ h=>h) (Or.inl ⟨by rfl,?_⟩) ?_ ?_;rotate_left
       ·exact zqt
       rotate_left
       ·exact zqs
       refine pure_ (i:=13) (N:=some 37) (v:=?_) (a':=?_) (zqb 26 16383) rfl rfl (any_of HT_.out zqk) (fun _ _ _ h=>h) (Or.inl ⟨by rfl,?_⟩) ?_ ?_;rotate_left
       ·exact zqt
       rotate_left
       ·exact zqs
       refine pure_ (i:=14) (N:=some 38) (v:=?_) (a':=?_) (zqb 26 32767) rfl rfl (any_of HT_.out zqk) (fun _ _ _ h=>h) (Or.inl ⟨by rfl,?_⟩) ?_ ?_;rotate_left
       ·exact zqt
       rotate_left
       ·exact zqs
       refine pure_ (i:=17) (N:=some 41) (v:=?_) (a':=?_) (zqb 26 163839) rfl rfl (any_of HT_.out zqk) (fun _ _ _ h=>h) (Or.inl ⟨by rfl,?_⟩) ?_ ?_;rotate_left
       ·exact zqt
       rotate_left
       ·exact zqs
       refine take_ (i:=15) (N:=some 39) (v:=?_) (a':=?_) (zqb 26 196607) rfl rfl (take_ofW HT_.out HW_.out zqk) (fun _ _ _ h=>h) (Or.inl ⟨by rfl,?_⟩) hHeld ?_ ?_;rotate_left
       ·rintro w' ⟨s0,s1⟩;go_simp;with_reducible rfl
       rotate_left
       ·exact zqs
       refine pure_ (i:=16) (N:=some 40) (v:=?_) (a':=?_) (zqb 26 262143) rfl rfl (any_of HT_.out zqk) (fun _ _ _ h=>h) (Or.inl ⟨by rfl,?_⟩) ?_ ?_;rotate_left
       ·exact zqt
       rotate_left
       ·exact zqs
       refine take_ (i:=18) (N:=some 42) (v:=?_) (a':=?_) (zqb 26 524287) rfl rfl (take_ofW HT_.out HW_.out zqk) (fun _ _ _ h=>h) (Or.inl ⟨by rfl,?_⟩) hHeld ?_ ?_;rotate_left
       ·rintro w' ⟨s0,s1⟩;go_simp;with_reducible rfl
       rotate_left
       ·exact zqs
       refine one_ (i:=19) (N:=some 43) (zqb 26 1048575) rfl rfl (one_of HT_.out zqk) (by decide) (fun K hK=>?_);refine goes_ Try.func21 zqk rfl #[.slice d7 a4.length d2] (by rfl) rfl rfl zq1 ?_;(with_reducible refine(impl_AtomsOf.calls k _ _ a4 b0 _ ?side1 ?side2 m7.out).mono ?_);(case side1=> exact zq21);(case side2=>exact(Kd.S_reads' a2.out).2.1);rintro e w84 ⟨a1e,rfl,a8,hb⟩;refine⟨_,rfl,?_⟩;replace a2:=zqm (Kd.S_elder' zq30 (Kd.R_base a8) hb);have g2:=zqm (Kd.Q_elder' zq25 (Kd.R_base a8) hb);have k8:=zqm (Kd.R_lower (Kd.R_new' a8 (Kd.Q_lt zq25)) (below_size zq13));replace a0:=zqm (blk_below (g:=a3) (o:= .cells #[.slice d7 a4.length d2,.slice e4 a5.length d8] 26 (0,0)) zq2 hb);replace HB:=zqm (below_step zq13 hb);clear a1;have a1:=g2;clear g2 hb a8;obtain⟨a0w,a1c,j7⟩:=Kd.R_slice k8.out;(first|subst j7|(injection j7 with g0 h4 g1;have h5:=g0.symm;have h6:=g1.symm;clear g0 h4 g1;subst h5;subst h6));refine hK.out _ _ ⟨(blk_cell a0.out 0).trans rfl,(blk_cell a0.out 1).trans rfl⟩ (fun hHeld=>?_);clear hK K;refine norm_ (a':=?_) ?_ ?_;rotate_left
       ·show Act.put _ (some 43) _=_;exact zqs
       refine pure_ (i:=20) (N:=some 44) (v:=?_) (a':=?_) (zqb 26 2097151) rfl rfl (any_of HT_.out zqk) (fun _ _ _ h=>h) (Or.inl ⟨by rfl,?_⟩) ?_ ?_;rotate_left
       ·exact zqt
       rotate_left
       ·exact zqs
       refine pure_ (i:=21) (N:=some 45) (v:=?_) (a':=?_) (zqb 26 4194303) rfl rfl (any_of HT_.out zqk) (fun _ _ _ h=>h) (Or.inl ⟨by rfl,?_⟩) ?_ ?_;rotate_left
       ·exact zqt
       rotate_left
       ·exact zqs
       refine pure_ (i:=22) (N:=some 46) (v:=?_) (a':=?_) (zqb 26 8388607) rfl rfl (any_of HT_.out zqk) (fun _ _ _ h=>h) (Or.inl ⟨by rfl,?_⟩) ?_ ?_;rotate_left
       ·exact zqt
       rotate_left
       ·exact zqs
       refine pure_ (i:=23) (N:=some 47) (v:=?_) (a':=?_) (zqb 26 16777215) rfl rfl (any_of HT_.out zqk) (fun _ _ _ h=>h) (Or.inl ⟨by rfl,?_⟩) ?_ ?_;rotate_left
       ·exact zqt
       rotate_left
       ·exact zqs
       refine pure_ (i:=24) (N:=some 48) (v:=?_) (a':=?_) (zqb 26 33554431) rfl rfl (any_of HT_.out zqk) (fun _ _ _ h=>h) (Or.inl ⟨by rfl,?_⟩) ?_ ?_;rotate_left
       ·exact zqt
       rotate_left
       ·exact zqs
       refine pure_ (i:=25) (N:=some 2) (v:=?_) (a':=?_) (zqb 26 67108863) rfl rfl (any_of HT_.out zqk) (fun _ _ _ h=>h) (Or.inl ⟨by rfl,?_⟩) ?_ ?_;rotate_left
       ·exact zqt
       rotate_left
       ·exact zqs
       refine done_ (done_of HT_.out zqk) ?_;try go_wp2
       go_ret
       exact⟨by first|rfl|(simp [errW_none,errW_some] <;> rfl)|(simp only [← f3];first|rfl|(simp [errW_none,errW_some] <;> rfl))|(simp [*,errW_none,errW_some] <;> rfl),zq13⟩
      ·replace i6:=Bool.eq_false_iff.mpr i6;subst i6;(have H1:(some true)=some r:=by rw [if_neg (show¬(false=true) by decide)] at H;exact H);clear H;have H:=H1;clear H1;obtain rfl:=Option.some.inj H
       go_enter Try.func3,Try.ntmps3
       (try go_wp2_with (first|((with_reducible refine gate_callee (f:=14) rfl ?_);refine goesL_ (some 9) rfl rfl Try.func14 zqk rfl #[.slice A0 l0.length c0] rfl zq1 ?_;(with_reducible refine(spec_DrawBooleanOk.calls k _ _ l0 a4 a5 _ ?side1 ?side2 A3.out).mono ?_);(case side1=> exact zq76);(case side2=>exact h2.out);rintro e w86 ⟨g8,g9,rfl,a8,c3,hb⟩;refine⟨_,rfl,?_⟩;have a2:=zqm (Kd.S_lower a8 (below_size zq0));have a1:=zqm (Kd.Q_lower c3 (below_size zq0));replace HB:=zqm (below_step zq0 hb);clear hb a8 c3)|((with_reducible refine gate_dst (N:=3) rfl ?_);(try(refine gate_guard (by rfl) ?_;dsimp only));refine box_event ?hg (N:=3) ?hd (cs:= #[.slice none 0 0,.slice none 0 0]) (t:=26) ?hr ?_;(case hd=>rfl);(case hg=>rfl);(case hr=>first|(go_simp;done)|(go_simp;rfl));intro a3 hg o1 hbox hb;replace a2:=zqm (Kd.S_below zq30 hb);replace a1:=zqm (Kd.Q_below zq25 hb);have b5:=zqm (below_step zq0 hb);have a0:=zqm (hbox);have f9:=zqm ((by rw [hg];exact(below_size zq0):w.heap.size≤a3));have a7:=zqm ((by rw [hg];exact(below_size zq0):w.heap.size≤a3));clear HB;have HB:=b5;clear b5 hb hbox hg;obtain⟨e9,e5,p9⟩:=Kd.S_slice a2.out;subst p9;have x1:o1.cell? ⟨a3,0,none⟩=some (.slice none 0 0):=(blk_cell a0.out 0).trans rfl;have x2:o1.cell? ⟨a3,1,none⟩=some (.slice none 0 0):=(blk_cell a0.out 1).trans rfl;have a0f:=blk_frozen a0.out 0;have a0g:=blk_frozen a0.out 1;obtain⟨f0,e6,q0,_⟩:=Kd.Q_slice a1.out;subst q0)|((with_reducible refine gate_callee (f:=15) rfl ?_);refine goesL_ (some 11) rfl rfl Try.func15 zqk rfl #[.agg #[.slice e9 a4.length e5,.slice f0 a5.length e6]] rfl zq1 ?_;(with_reducible refine(impl_BooleanOk.calls _ _ a4 _ _ a5 false _ ?side1 ?side2 ?side3 ?side4 A4.out).mono ?_);(case side1=>refine(Kd.S_reads' (e:=24) (base:=w.heap.size) (ok:=fun k_=>some k_≠(.slice f0 a5.length e6:Value).ownBlock) (n:=a4.length) (c:=e5) ?_).2.2;exact zq196);(case side2=>exact(Kd.S_reads' a2.out).2.1);(case side3=>refine(Kd.Q_reads' (e:=3) (base:=w.heap.size) (ok:=fun k_=>True) (n:=a5.length) (c:=e6) ?_).2.2;exact zq153);(case side4=>exact(Kd.Q_reads' a1.out).2.1);rintro e o2 ⟨rfl,hb⟩;refine⟨_,rfl,?_⟩;replace a2:=zqm (Kd.S_below zq196 hb);replace a1:=zqm (Kd.Q_below zq153 hb);replace a0:=zqm (blk_below (g:=a3) (o:= .cells #[.slice e9 a4.length e5,.slice f0 a5.length e6] 26 (0,0)) (by(with_reducible repeat(first|refine blk_drewN ?_ _|refine blk_drew ?_|refine blk_alloc ?_ _));refine blk_put (cs:= #[.slice e9 a4.length e5,.slice none 0 0]) ?_ 1 _ rfl;(with_reducible repeat(first|refine blk_drewN ?_ _|refine blk_drew ?_|refine blk_alloc ?_ _));refine blk_put (cs:= #[.slice none 0 0,.slice none 0 0]) ?_ 0 _ rfl;(with_reducible repeat(first|refine blk_drewN ?_ _|refine blk_drew ?_|refine blk_alloc ?_ _));exact a0.out) hb);replace HB:=zqm (below_step zq13 hb);clear hb;have x3:o2.cell? ⟨a3,0,none⟩=some (.slice e9 a4.length e5):=(blk_cell a0.out 0).trans rfl;have x4:o2.cell? ⟨a3,1,none⟩=some (.slice f0 a5.length e6):=(blk_cell a0.out 1).trans rfl;have a0h:=blk_frozen a0.out 0;have a0i:=blk_frozen a0.out 1)|((with_reducible refine gate_callee (f:=16) rfl ?_);refine goesL_ (some 14) rfl rfl Try.func16 zqk rfl #[.agg #[.slice e9 a4.length e5,.slice f0 a5.length e6]] rfl zq1 ?_;(with_reducible refine(spec_BooleanOk.calls k _ _ a4 _ _ a5 b2 _ ?side1 ?side2 ?side3 ?side4 A5.out).mono ?_);(case side1=> exact zq21);(case side2=>exact(Kd.S_reads' a2.out).2.1);(case side3=> exact zq24);(case side4=>exact(Kd.Q_reads' a1.out).2.1);rintro e o3 ⟨rfl,hb⟩;refine⟨_,rfl,?_⟩;replace a2:=zqm (Kd.S_below zq30 hb);replace a1:=zqm (Kd.Q_below zq25 hb);replace a0:=zqm (blk_below (g:=a3) (o:= .cells #[.slice e9 a4.length e5,.slice f0 a5.length e6] 26 (0,0)) zq2 hb);replace HB:=zqm (below_step zq13 hb);clear hb;have x5:o3.cell? ⟨a3,0,none⟩=some (.slice e9 a4.length e5):=(blk_cell a0.out 0).trans rfl;have x6:o3.cell? ⟨a3,1,none⟩=some (.slice f0 a5.length e6):=(blk_cell a0.out 1).trans rfl;have a0j:=blk_frozen a0.out 0;have a0k:=blk_frozen a0.out 1)|((with_reducible refine gate_callee (f:=17) rfl ?_);refine goesL_ (some 17) rfl rfl Try.func17 zqk rfl #[.agg #[.slice e9 a4.length e5,.slice f0 a5.length e6]] rfl zq1 ?_;(with_reducible refine(spec_LogicOk.calls k _ _ a4 _ _ a5 true _ ?side1 ?side2 ?side3 ?side4 h0.out).mono ?_);(case side1=> exact zq21);(case side2=>exact(Kd.S_reads' a2.out).2.1);(case side3=> exact zq24);(case side4=>exact(Kd.Q_reads' a1.out).2.1);rintro e w95 ⟨rfl,hb⟩;refine⟨_,rfl,?_⟩;replace a2:=zqm (Kd.S_below zq30 hb);replace a1:=zqm (Kd.Q_below zq25 hb);replace a0:=zqm (blk_below (g:=a3) (o:= .cells #[.slice e9 a4.length e5,.slice f0 a5.length e6] 26 (0,0)) zq2 hb);replace HB:=zqm (below_step zq13 hb);clear hb)))
       replace a2:=zqm (Kd.S_drew a2.out);replace a1:=zqm (Kd.Q_drew a1.out);replace a0:=zqm (blk_drew a0.out);replace HB:=zqm (below_drew1 HB.out);refine start_ (n:=26) (S:=fun w'=>w'.cell? ⟨a3,0,none⟩=some (.slice e9 a4.length e5)∧w'.cell? ⟨a3,1,none⟩=some (.slice f0 a5.length e6)) (ds:= []) (zqb 26 0) zqk rfl rfl ⟨(blk_cell a0.out 0).trans rfl,(blk_cell a0.out 1).trans rfl⟩ (fun hHeld=>?_);refine with_tabW laws_FnBooleanOk.tab9 laws_FnBooleanOk.bits9 (fun HT_ HW_=>?_);generalize w95.drew=w96 at a2 a1 a0 HB hHeld ⊢;refine pure_ (i:=0) (N:=some 24) (v:=?_) (a':=?_) (zqb 26 1) rfl rfl (any_of HT_.out zqk) (fun _ _ _ h=>h) (Or.inl ⟨by rfl,?_⟩) ?_ ?_;rotate_left
       ·exact zqt
       rotate_left
       ·exact zqs
       refine take_ (i:=1) (N:=some 25) (v:=?_) (a':=?_) (zqb 26 3) rfl rfl (take_ofW HT_.out HW_.out zqk) (fun _ _ _ h=>h) (Or.inl ⟨by rfl,?_⟩) hHeld ?_ ?_;rotate_left
       ·rintro w' ⟨s0,s1⟩;go_simp;with_reducible rfl
       rotate_left
       ·exact zqs
       refine one_ (i:=2) (N:=some 26) (zqb 26 7) rfl rfl (one_of HT_.out zqk) (by decide) (fun K hK=>?_);refine goes_ Try.func19 zqk rfl #[.agg #[.slice e9 a4.length e5,.slice f0 a5.length e6]] (by rfl) rfl rfl zq1 ?_;(with_reducible refine(impl_KeepsOk.calls _ _ a4 _ _ a5 false _ ?side1 ?side2 ?side3 ?side4 h7.out).mono ?_);(case side1=> exact zq21);(case side2=>exact(Kd.S_reads' a2.out).2.1);(case side3=> exact zq24);(case side4=>exact(Kd.Q_reads' a1.out).2.1);rintro e w97 ⟨rfl,hb⟩;refine⟨_,rfl,?_⟩;replace a2:=zqm (Kd.S_below zq30 hb);replace a1:=zqm (Kd.Q_below zq25 hb);replace a0:=zqm (blk_below (g:=a3) (o:= .cells #[.slice e9 a4.length e5,.slice f0 a5.length e6] 26 (0,0)) zq2 hb);replace HB:=zqm (below_step zq13 hb);clear hb;refine hK.out _ _ ⟨(blk_cell a0.out 0).trans rfl,(blk_cell a0.out 1).trans rfl⟩ (fun hHeld=>?_);clear hK K;refine norm_ (a':=?_) ?_ ?_;rotate_left
       ·show Act.put _ (some 26) _=_;exact zqs
       refine pure_ (i:=3) (N:=some 27) (v:=?_) (a':=?_) (zqb 26 15) rfl rfl (any_of HT_.out zqk) (fun _ _ _ h=>h) (Or.inl ⟨by rfl,?_⟩) ?_ ?_;rotate_left
       ·exact zqt
       rotate_left
       ·exact zqs
       refine pure_ (i:=4) (N:=some 28) (v:=undef) (a':=?_) (zqb 26 31) rfl rfl (any_of HT_.out zqk) (fun _ _ _ h=>h) (Or.inr ⟨by rfl,rfl⟩) ?_ ?_;rotate_left
       ·exact zqs
       refine pure_ (i:=5) (N:=some 29) (v:=undef) (a':=?_) (zqb 26 63) rfl rfl (any_of HT_.out zqk) (fun _ _ _ h=>h) (Or.inr ⟨by rfl,rfl⟩) ?_ ?_;rotate_left
       ·exact zqs
       refine pure_ (i:=6) (N:=some 30) (v:=undef) (a':=?_) (zqb 26 127) rfl rfl (any_of HT_.out zqk) (fun _ _ _ h=>h) (Or.inr ⟨by rfl,rfl⟩) ?_ ?_;rotate_left
       ·exact zqs
       refine pure_ (i:=7) (N:=some 31) (v:=undef) (a':=?_) (zqb 26 255) rfl rfl (any_of HT_.out zqk) (fun _ _ _ h=>h) (Or.inr ⟨by rfl,rfl⟩) ?_ ?_;rotate_left
       ·exact zqs
       refine pure_ (i:=8) (N:=some 32) (v:=?_) (a':=?_) (zqb 26 511) rfl rfl (any_of HT_.out zqk) (fun _ _ _ h=>h) (Or.inl ⟨by rfl,?_⟩) ?_ ?_;rotate_left
       ·exact zqt
       rotate_left
       ·exact zqs
       refine pure_ (i:=9) (N:=some 33) (v:=?_) (a':=?_) (zqb 26 1023) rfl rfl (any_of HT_.out zqk) (fun _ _ _ h=>h) (Or.inl ⟨by rfl,?_⟩) ?_ ?_;rotate_left
       ·exact zqt
       rotate_left
       ·exact zqs
       refine pure_ (i:=10) (N:=some 34) (v:=?_) (a':=?_) (zqb 26 2047) rfl rfl (any_of HT_.out zqk) (fun _ _ _ h=>h) (Or.inl ⟨by rfl,?_⟩) ?_ ?_;rotate_left
       ·exact zqt
       rotate_left
       ·exact zqs
       refine pure_ (i:=11) (N:=some 35) (v:=?_) (a':=?_) (zqb 26 4095) rfl rfl (any_of HT_.out zqk) (fun _ _ _ h=>h) (Or.inl ⟨by rfl,?_⟩) ?_ ?_;rotate_left
       ·exact zqt
       rotate_left
       ·exact zqs
       refine pure_ (i:=12) (N:=some 36) (v:=?_) (a':=?_) (zqb 26 8191) rfl rfl (any_of HT_.out zqk) (fun _ _ _ h=>h) (Or.inl ⟨by rfl,?_⟩) ?_ ?_;rotate_left
       ·exact zqt
       rotate_left
       ·exact zqs
       refine pure_ (i:=13) (N:=some 37) (v:=?_) (a':=?_) (zqb 26 16383) rfl rfl (any_of HT_.out zqk) (fun _ _ _ h=>h) (Or.inl ⟨by rfl,?_⟩) ?_ ?_;rotate_left
       ·exact zqt
       rotate_left
       ·exact zqs
       refine pure_ (i:=14) (N:=some 38) (v:=undef) (a':=?_) (zqb 26 32767) rfl rfl (any_of HT_.out zqk) (fun _ _ _ h=>h) (Or.inr ⟨by rfl,rfl⟩) ?_ ?_;rotate_left
       ·exact zqs
       refine pure_ (i:=15) (N:=some 39) (v:=undef) (a':=?_) (zqb 26 65535) rfl rfl (any_of HT_.out zqk) (fun _ _ _ h=>h) (Or.inr ⟨by rfl,rfl⟩) ?_ ?_;rotate_left
       ·exact zqs
       refine pure_ (i:=16) (N:=some 40) (v:=undef) (a':=?_) (zqb 26 131071) rfl rfl (any_of HT_.out zqk) (fun _ _ _ h=>h) (Or.inr ⟨by rfl,rfl⟩) ?_ ?_;rotate_left
       ·exact zqs
       refine pure_ (i:=17) (N:=some 41) (v:=undef) (a':=?_) (zqb 26 262143) rfl rfl (any_of HT_.out zqk) (fun _ _ _ h=>h) (Or.inr ⟨by rfl,rfl⟩) ?_ ?_;rotate_left
       ·exact zqs
       refine pure_ (i:=18) (N:=some 42) (v:=undef) (a':=?_) (zqb 26 524287) rfl rfl (any_of HT_.out zqk) (fun _ _ _ h=>h) (Or.inr ⟨by rfl,rfl⟩) ?_ ?_;rotate_left
       ·exact zqs
       refine pure_ (i:=19) (N:=some 43) (v:=undef) (a':=?_) (zqb 26 1048575) rfl rfl (any_of HT_.out zqk) (fun _ _ _ h=>h) (Or.inr ⟨by rfl,rfl⟩) ?_ ?_;rotate_left
       ·exact zqs
       refine pure_ (i:=20) (N:=some 44) (v:=undef) (a':=?_) (zqb 26 2097151) rfl rfl (any_of HT_.out zqk) (fun _ _ _ h=>h) (Or.inr ⟨by rfl,rfl⟩) ?_ ?_;rotate_left
       ·exact zqs
       refine pure_ (i:=21) (N:=some 45) (v:=undef) (a':=?_) (zqb 26 4194303) rfl rfl (any_of HT_.out zqk) (fun _ _ _ h=>h) (Or.inr ⟨by rfl,rfl⟩) ?_ ?_;rotate_left
       ·exact zqs
       refine pure_ (i:=22) (N:=some 46) (v:=undef) (a':=?_) (zqb 26 8388607) rfl rfl (any_of HT_.out zqk) (fun _ _ _ h=>h) (Or.inr ⟨by rfl,rfl⟩) ?_ ?_;rotate_left
       ·exact zqs
       refine pure_ (i:=23) (N:=some 47) (v:=?_) (a':=?_) (zqb 26 16777215) rfl rfl (any_of HT_.out zqk) (fun _ _ _ h=>h) (Or.inl ⟨by rfl,?_⟩) ?_ ?_;rotate_left
       ·exact zqt
       rotate_left
       ·exact zqs
       refine pure_ (i:=24) (N:=some 48) (v:=?_) (a':=?_) (zqb 26 33554431) rfl rfl (any_of HT_.out zqk) (fun _ _ _ h=>h) (Or.inl ⟨by rfl,?_⟩) ?_ ?_;rotate_left
       ·exact zqt
       rotate_left
       ·exact zqs
       refine pure_ (i:=25) (N:=some 2) (v:=?_) (a':=?_) (zqb 26 67108863) rfl rfl (any_of HT_.out zqk) (fun _ _ _ h=>h) (Or.inl ⟨by rfl,?_⟩) ?_ ?_;rotate_left
       ·exact zqt
       rotate_left
       ·exact zqs
       refine done_ (done_of HT_.out zqk) ?_;try go_wp2
       go_ret
       exact⟨zq11,zq13⟩
     ·rw [if_neg g6] at H;(have l3:(a6==false)=false:=by simpa using g6);(try(have l4:decide (a6=false)=false:=by simpa using g6));(try(have l5:(a6==false)=false:=by simpa using g6));(try(have l6: ¬(a6=false):=by simpa using g6));clear g6;(obtain rfl:a6=true:=by simpa using l6);(obtain rfl:b2=true:=by simpa using j2);obtain rfl:=Option.some.inj H
      go_enter Try.func3,Try.ntmps3
      (try go_wp2_with (first|((with_reducible refine gate_callee (f:=14) rfl ?_);refine goesL_ (some 9) rfl rfl Try.func14 zqk rfl #[.slice A0 l0.length c0] rfl zq1 ?_;(with_reducible refine(spec_DrawBooleanOk.calls k _ _ l0 a4 a5 _ ?side1 ?side2 A3.out).mono ?_);(case side1=> exact zq76);(case side2=>exact h2.out);rintro e w98 ⟨g8,g9,rfl,a8,c3,hb⟩;refine⟨_,rfl,?_⟩;have a2:=zqm (Kd.S_lower a8 (below_size zq0));have a1:=zqm (Kd.Q_lower c3 (below_size zq0));replace HB:=zqm (below_step zq0 hb);clear hb a8 c3)|((with_reducible refine gate_dst (N:=3) rfl ?_);(try(refine gate_guard (by rfl) ?_;dsimp only));refine box_event ?hg (N:=3) ?hd (cs:= #[.slice none 0 0,.slice none 0 0]) (t:=26) ?hr ?_;(case hd=>rfl);(case hg=>rfl);(case hr=>first|(go_simp;done)|(go_simp;rfl));intro a3 hg o4 hbox hb;replace a2:=zqm (Kd.S_below zq30 hb);replace a1:=zqm (Kd.Q_below zq25 hb);have b5:=zqm (below_step zq0 hb);have a0:=zqm (hbox);have f9:=zqm ((by rw [hg];exact(below_size zq0):w.heap.size≤a3));have a7:=zqm ((by rw [hg];exact(below_size zq0):w.heap.size≤a3));clear HB;have HB:=b5;clear b5 hb hbox hg;obtain⟨b7,b3,l7⟩:=Kd.S_slice a2.out;subst l7;have q1:o4.cell? ⟨a3,0,none⟩=some (.slice none 0 0):=(blk_cell a0.out 0).trans rfl;have q2:o4.cell? ⟨a3,1,none⟩=some (.slice none 0 0):=(blk_cell a0.out 1).trans rfl;have r9:=blk_frozen a0.out 0;have s2:=blk_frozen a0.out 1;obtain⟨b8,b4,l8,_⟩:=Kd.Q_slice a1.out;subst l8)|((with_reducible refine gate_callee (f:=15) rfl ?_);refine goesL_ (some 11) rfl rfl Try.func15 zqk rfl #[.agg #[.slice b7 a4.length b3,.slice b8 a5.length b4]] rfl zq1 ?_;(with_reducible refine(impl_BooleanOk.calls _ _ a4 _ _ a5 true _ ?side1 ?side2 ?side3 ?side4 A4.out).mono ?_);(case side1=>refine(Kd.S_reads' (e:=24) (base:=w.heap.size) (ok:=fun k_=>some k_≠(.slice b8 a5.length b4:Value).ownBlock) (n:=a4.length) (c:=b3) ?_).2.2;exact zq189);(case side2=>exact(Kd.S_reads' a2.out).2.1);(case side3=>refine(Kd.Q_reads' (e:=3) (base:=w.heap.size) (ok:=fun k_=>True) (n:=a5.length) (c:=b4) ?_).2.2;exact zq146);(case side4=>exact(Kd.Q_reads' a1.out).2.1);rintro e j9 ⟨rfl,hb⟩;refine⟨_,rfl,?_⟩;replace a2:=zqm (Kd.S_below zq189 hb);replace a1:=zqm (Kd.Q_below zq146 hb);replace a0:=zqm (blk_below (g:=a3) (o:= .cells #[.slice b7 a4.length b3,.slice b8 a5.length b4] 26 (0,0)) (by(with_reducible repeat(first|refine blk_drewN ?_ _|refine blk_drew ?_|refine blk_alloc ?_ _));refine blk_put (cs:= #[.slice b7 a4.length b3,.slice none 0 0]) ?_ 1 _ rfl;(with_reducible repeat(first|refine blk_drewN ?_ _|refine blk_drew ?_|refine blk_alloc ?_ _));refine blk_put (cs:= #[.slice none 0 0,.slice none 0 0]) ?_ 0 _ rfl;(with_reducible repeat(first|refine blk_drewN ?_ _|refine blk_drew ?_|refine blk_alloc ?_ _));exact a0.out) hb);replace HB:=zqm (below_step zq13 hb);clear hb;have q3:j9.cell? ⟨a3,0,none⟩=some (.slice b7 a4.length b3):=(blk_cell a0.out 0).trans rfl;have q4:j9.cell? ⟨a3,1,none⟩=some (.slice b8 a5.length b4):=(blk_cell a0.out 1).trans rfl;have s3:=blk_frozen a0.out 0;have s4:=blk_frozen a0.out 1)|((with_reducible refine gate_callee (f:=16) rfl ?_);refine goesL_ (some 14) rfl rfl Try.func16 zqk rfl #[.agg #[.slice b7 a4.length b3,.slice b8 a5.length b4]] rfl zq1 ?_;(with_reducible refine(spec_BooleanOk.calls k _ _ a4 _ _ a5 true _ ?side1 ?side2 ?side3 ?side4 A5.out).mono ?_);(case side1=> exact zq21);(case side2=>exact(Kd.S_reads' a2.out).2.1);(case side3=> exact zq24);(case side4=>exact(Kd.Q_reads' a1.out).2.1);rintro e k0 ⟨rfl,hb⟩;refine⟨_,rfl,?_⟩;replace a2:=zqm (Kd.S_below zq30 hb);replace a1:=zqm (Kd.Q_below zq25 hb);replace a0:=zqm (blk_below (g:=a3) (o:= .cells #[.slice b7 a4.length b3,.slice b8 a5.length b4] 26 (0,0)) zq2 hb);replace HB:=zqm (below_step zq13 hb);clear hb;have q5:k0.cell? ⟨a3,0,none⟩=some (.slice b7 a4.length b3):=(blk_cell a0.out 0).trans rfl;have q6:k0.cell? ⟨a3,1,none⟩=some (.slice b8 a5.length b4):=(blk_cell a0.out 1).trans rfl;have s5:=blk_frozen a0.out 0;have s6:=blk_frozen a0.out 1)|((with_reducible refine gate_callee (f:=17) rfl ?_);refine goesL_ (some 17) rfl rfl Try.func17 zqk rfl #[.agg #[.slice b7 a4.length b3,.slice b8 a5.length b4]] rfl zq1 ?_;(with_reducible refine(spec_LogicOk.calls k _ _ a4 _ _ a5 true _ ?side1 ?side2 ?side3 ?side4 h0.out).mono ?_);(case side1=> exact zq21);(case side2=>exact(Kd.S_reads' a2.out).2.1);(case side3=> exact zq24);(case side4=>exact(Kd.Q_reads' a1.out).2.1);rintro e t9 ⟨rfl,hb⟩;refine⟨_,rfl,?_⟩;replace a2:=zqm (Kd.S_below zq30 hb);replace a1:=zqm (Kd.Q_below zq25 hb);replace a0:=zqm (blk_below (g:=a3) (o:= .cells #[.slice b7 a4.length b3,.slice b8 a5.length b4] 26 (0,0)) zq2 hb);replace HB:=zqm (below_step zq13 hb);clear hb)))
      replace a2:=zqm (Kd.S_drew a2.out);replace a1:=zqm (Kd.Q_drew a1.out);replace a0:=zqm (blk_drew a0.out);replace HB:=zqm (below_drew1 HB.out);refine start_ (n:=26) (S:=fun w'=>w'.cell? ⟨a3,0,none⟩=some (.slice b7 a4.length b3)∧w'.cell? ⟨a3,1,none⟩=some (.slice b8 a5.length b4)) (ds:= []) (zqb 26 0) zqk rfl rfl ⟨(blk_cell a0.out 0).trans rfl,(blk_cell a0.out 1).trans rfl⟩ (fun hHeld=>?_);refine with_tabW laws_FnBooleanOk.tab9 laws_FnBooleanOk.bits9 (fun HT_ HW_=>?_);generalize t9.drew=a1f at a2 a1 a0 HB hHeld ⊢;refine pure_ (i:=0) (N:=some 24) (v:=?_) (a':=?_) (zqb 26 1) rfl rfl (any_of HT_.out zqk) (fun _ _ _ h=>h) (Or.inl ⟨by rfl,?_⟩) ?_ ?_;rotate_left
      ·exact zqt
      rotate_left
      ·exact zqs
      refine take_ (i:=1) (N:=some 25) (v:=?_) (a':=?_) (zqb 26 3) rfl rfl (take_ofW HT_.out HW_.out zqk) (fun _ _ _ h=>h) (Or.inl ⟨by rfl,?_⟩) hHeld ?_ ?_;rotate_left
      ·rintro w' ⟨s0,s1⟩;go_simp;with_reducible rfl
      rotate_left
      ·exact zqs
      refine one_ (i:=2) (N:=some 26) (zqb 26 7) rfl rfl (one_of HT_.out zqk) (by decide) (fun K hK=>?_);refine goes_ Try.func19 zqk rfl #[.agg #[.slice b7 a4.length b3,.slice b8 a5.length b4]] (by rfl) rfl rfl zq1 ?_;(with_reducible refine(impl_KeepsOk.calls _ _ a4 _ _ a5 false _ ?side1 ?side2 ?side3 ?side4 h7.out).mono ?_);(case side1=> exact zq21);(case side2=>exact(Kd.S_reads' a2.out).2.1);(case side3=> exact zq24);(case side4=>exact(Kd.Q_reads' a1.out).2.1);rintro e a1g ⟨rfl,hb⟩;refine⟨_,rfl,?_⟩;replace a2:=zqm (Kd.S_below zq30 hb);replace a1:=zqm (Kd.Q_below zq25 hb);replace a0:=zqm (blk_below (g:=a3) (o:= .cells #[.slice b7 a4.length b3,.slice b8 a5.length b4] 26 (0,0)) zq2 hb);replace HB:=zqm (below_step zq13 hb);clear hb;refine hK.out _ _ ⟨(blk_cell a0.out 0).trans rfl,(blk_cell a0.out 1).trans rfl⟩ (fun hHeld=>?_);clear hK K;refine norm_ (a':=?_) ?_ ?_;rotate_left
      ·show Act.put _ (some 26) _=_;exact zqs
      refine pure_ (i:=3) (N:=some 27) (v:=?_) (a':=?_) (zqb 26 15) rfl rfl (any_of HT_.out zqk) (fun _ _ _ h=>h) (Or.inl ⟨by rfl,?_⟩) ?_ ?_;rotate_left
      ·exact zqt
      rotate_left
      ·exact zqs
      refine pure_ (i:=4) (N:=some 28) (v:=undef) (a':=?_) (zqb 26 31) rfl rfl (any_of HT_.out zqk) (fun _ _ _ h=>h) (Or.inr ⟨by rfl,rfl⟩) ?_ ?_;rotate_left
      ·exact zqs
      refine pure_ (i:=5) (N:=some 29) (v:=undef) (a':=?_) (zqb 26 63) rfl rfl (any_of HT_.out zqk) (fun _ _ _ h=>h) (Or.inr ⟨by rfl,rfl⟩) ?_ ?_;rotate_left
      ·exact zqs
      refine pure_ (i:=6) (N:=some 30) (v:=undef) (a':=?_) (zqb 26 127) rfl rfl (any_of HT_.out zqk) (fun _ _ _ h=>h) (Or.inr ⟨by rfl,rfl⟩) ?_ ?_;rotate_left
      ·exact zqs
      refine pure_ (i:=7) (N:=some 31) (v:=undef) (a':=?_) (zqb 26 255) rfl rfl (any_of HT_.out zqk) (fun _ _ _ h=>h) (Or.inr ⟨by rfl,rfl⟩) ?_ ?_;rotate_left
      ·exact zqs
      refine pure_ (i:=8) (N:=some 32) (v:=?_) (a':=?_) (zqb 26 511) rfl rfl (any_of HT_.out zqk) (fun _ _ _ h=>h) (Or.inl ⟨by rfl,?_⟩) ?_ ?_;rotate_left
      ·exact zqt
      rotate_left
      ·exact zqs
      refine pure_ (i:=9) (N:=some 33) (v:=?_) (a':=?_) (zqb 26 1023) rfl rfl (any_of HT_.out zqk) (fun _ _ _ h=>h) (Or.inl ⟨by rfl,?_⟩) ?_ ?_;rotate_left
      ·exact zqt
      rotate_left
      ·exact zqs
      refine pure_ (i:=10) (N:=some 34) (v:=?_) (a':=?_) (zqb 26 2047) rfl rfl (any_of HT_.out zqk) (fun _ _ _ h=>h) (Or.inl ⟨by rfl,?_⟩) ?_ ?_;rotate_left
      ·exact zqt
      rotate_left
      ·exact zqs
      refine pure_ (i:=11) (N:=some 35) (v:=undef) (a':=?_) (zqb 26 4095) rfl rfl (any_of HT_.out zqk) (fun _ _ _ h=>h) (Or.inr ⟨by rfl,rfl⟩) ?_ ?_;rotate_left
      ·exact zqs
      refine pure_ (i:=12) (N:=some 36) (v:=undef) (a':=?_) (zqb 26 8191) rfl rfl (any_of HT_.out zqk) (fun _ _ _ h=>h) (Or.inr ⟨by rfl,rfl⟩) ?_ ?_;rotate_left
      ·exact zqs
      refine pure_ (i:=13) (N:=some 37) (v:=undef) (a':=?_) (zqb 26 16383) rfl rfl (any_of HT_.out zqk) (fun _ _ _ h=>h) (Or.inr ⟨by rfl,rfl⟩) ?_ ?_;rotate_left
      ·exact zqs
      refine pure_ (i:=14) (N:=some 38) (v:=undef) (a':=?_) (zqb 26 32767) rfl rfl (any_of HT_.out zqk) (fun _ _ _ h=>h) (Or.inr ⟨by rfl,rfl⟩) ?_ ?_;rotate_left
      ·exact zqs
      refine pure_ (i:=15) (N:=some 39) (v:=undef) (a':=?_) (zqb 26 65535) rfl rfl (any_of HT_.out zqk) (fun _ _ _ h=>h) (Or.inr ⟨by rfl,rfl⟩) ?_ ?_;rotate_left
      ·exact zqs
      refine pure_ (i:=16) (N:=some 40) (v:=undef) (a':=?_) (zqb 26 131071) rfl rfl (any_of HT_.out zqk) (fun _ _ _ h=>h) (Or.inr ⟨by rfl,rfl⟩) ?_ ?_;rotate_left
      ·exact zqs
      refine pure_ (i:=17) (N:=some 41) (v:=undef) (a':=?_) (zqb 26 262143) rfl rfl (any_of HT_.out zqk) (fun _ _ _ h=>h) (Or.inr ⟨by rfl,rfl⟩) ?_ ?_;rotate_left
      ·exact zqs
      refine pure_ (i:=18) (N:=some 42) (v:=undef) (a':=?_) (zqb 26 524287) rfl rfl (any_of HT_.out zqk) (fun _ _ _ h=>h) (Or.inr ⟨by rfl,rfl⟩) ?_ ?_;rotate_left
      ·exact zqs
      refine pure_ (i:=19) (N:=some 43) (v:=undef) (a':=?_) (zqb 26 1048575) rfl rfl (any_of HT_.out zqk) (fun _ _ _ h=>h) (Or.inr ⟨by rfl,rfl⟩) ?_ ?_;rotate_left
      ·exact zqs
      refine pure_ (i:=20) (N:=some 44) (v:=undef) (a':=?_) (zqb 26 2097151) rfl rfl (any_of HT_.out zqk) (fun _ _ _ h=>h) (Or.inr ⟨by rfl,rfl⟩) ?_ ?_;rotate_left
      ·exact zqs
      refine pure_ (i:=21) (N:=some 45) (v:=undef) (a':=?_) (zqb 26 4194303) rfl rfl (any_of HT_.out zqk) (fun _ _ _ h=>h) (Or.inr ⟨by rfl,rfl⟩) ?_ ?_;rotate_left
      ·exact zqs
      refine pure_ (i:=22) (N:=some 46) (v:=undef) (a':=?_) (zqb 26 8388607) rfl rfl (any_of HT_.out zqk) (fun _ _ _ h=>h) (Or.inr ⟨by rfl,rfl⟩) ?_ ?_;rotate_left
      ·exact zqs
      refine pure_ (i:=23) (N:=some 47) (v:=undef) (a':=?_) (zqb 26 16777215) rfl rfl (any_of HT_.out zqk) (fun _ _ _ h=>h) (Or.inr ⟨by rfl,rfl⟩) ?_ ?_;rotate_left
      ·exact zqs
      refine pure_ (i:=24) (N:=some 48) (v:=?_) (a':=?_) (zqb 26 33554431) rfl rfl (any_of HT_.out zqk) (fun _ _ _ h=>h) (Or.inl ⟨by rfl,?_⟩) ?_ ?_;rotate_left
      ·exact zqt
      rotate_left
      ·exact zqs
      refine pure_ (i:=25) (N:=some 2) (v:=?_) (a':=?_) (zqb 26 67108863) rfl rfl (any_of HT_.out zqk) (fun _ _ _ h=>h) (Or.inl ⟨by rfl,?_⟩) ?_ ?_;rotate_left
      ·exact zqt
      rotate_left
      ·exact zqs
      refine done_ (done_of HT_.out zqk) ?_;try go_wp2
      go_ret
      exact⟨zq11,zq13⟩
   ·replace i3:=Bool.eq_false_iff.mpr i3;subst i3;(have H1:(if a6=true then(some false) else((laws_alive.f k).bind fun f1=>(some f1)))=some r:=by rw [if_neg (show¬(false=true) by decide)] at H;exact H);clear H;have H:=H1;clear H1
    by_cases i0:a6=true
    ·subst i0;(have H1:(some false)=some r:=by rw [if_pos rfl] at H;exact H);clear H;have H:=H1;clear H1;obtain rfl:=Option.some.inj H
     go_enter Try.func3,Try.ntmps3
     go_wp2_with (first|((with_reducible refine gate_callee (f:=14) rfl ?_);refine goesL_ (some 9) rfl rfl Try.func14 zqk rfl #[.slice A0 l0.length c0] rfl zq1 ?_;(with_reducible refine(spec_DrawBooleanOk.calls k _ _ l0 a4 a5 _ ?side1 ?side2 A3.out).mono ?_);(case side1=> exact zq76);(case side2=>exact h2.out);rintro e a1h ⟨g8,g9,rfl,a8,c3,hb⟩;refine⟨_,rfl,?_⟩;have a2:=zqm (Kd.S_lower a8 (below_size zq0));have a1:=zqm (Kd.Q_lower c3 (below_size zq0));replace HB:=zqm (below_step zq0 hb);clear hb a8 c3)|((with_reducible refine gate_dst (N:=3) rfl ?_);(try(refine gate_guard (by rfl) ?_;dsimp only));refine box_event ?hg (N:=3) ?hd (cs:= #[.slice none 0 0,.slice none 0 0]) (t:=26) ?hr ?_;(case hd=>rfl);(case hg=>rfl);(case hr=>first|(go_simp;done)|(go_simp;rfl));intro a3 hg k1 hbox hb;replace a2:=zqm (Kd.S_below zq30 hb);replace a1:=zqm (Kd.Q_below zq25 hb);have b5:=zqm (below_step zq0 hb);have a0:=zqm (hbox);have f9:=zqm ((by rw [hg];exact(below_size zq0):w.heap.size≤a3));have a7:=zqm ((by rw [hg];exact(below_size zq0):w.heap.size≤a3));clear HB;have HB:=b5;clear b5 hb hbox hg;obtain⟨e7,e2,l9⟩:=Kd.S_slice a2.out;subst l9;have q7:k1.cell? ⟨a3,0,none⟩=some (.slice none 0 0):=(blk_cell a0.out 0).trans rfl;have q8:k1.cell? ⟨a3,1,none⟩=some (.slice none 0 0):=(blk_cell a0.out 1).trans rfl;have s7:=blk_frozen a0.out 0;have s8:=blk_frozen a0.out 1;obtain⟨e8,e3,m0,_⟩:=Kd.Q_slice a1.out;subst m0)|((with_reducible refine gate_callee (f:=15) rfl ?_);refine goesL_ (some 11) rfl rfl Try.func15 zqk rfl #[.agg #[.slice e7 a4.length e2,.slice e8 a5.length e3]] rfl zq1 ?_;(with_reducible refine(impl_BooleanOk.calls _ _ a4 _ _ a5 true _ ?side1 ?side2 ?side3 ?side4 A4.out).mono ?_);(case side1=>refine(Kd.S_reads' (e:=24) (base:=w.heap.size) (ok:=fun k_=>some k_≠(.slice e8 a5.length e3:Value).ownBlock) (n:=a4.length) (c:=e2) ?_).2.2;exact zq195);(case side2=>exact(Kd.S_reads' a2.out).2.1);(case side3=>refine(Kd.Q_reads' (e:=3) (base:=w.heap.size) (ok:=fun k_=>True) (n:=a5.length) (c:=e3) ?_).2.2;exact zq152);(case side4=>exact(Kd.Q_reads' a1.out).2.1);rintro e k2 ⟨rfl,hb⟩;refine⟨_,rfl,?_⟩;replace a2:=zqm (Kd.S_below zq195 hb);replace a1:=zqm (Kd.Q_below zq152 hb);replace a0:=zqm (blk_below (g:=a3) (o:= .cells #[.slice e7 a4.length e2,.slice e8 a5.length e3] 26 (0,0)) (by(with_reducible repeat(first|refine blk_drewN ?_ _|refine blk_drew ?_|refine blk_alloc ?_ _));refine blk_put (cs:= #[.slice e7 a4.length e2,.slice none 0 0]) ?_ 1 _ rfl;(with_reducible repeat(first|refine blk_drewN ?_ _|refine blk_drew ?_|refine blk_alloc ?_ _));refine blk_put (cs:= #[.slice none 0 0,.slice none 0 0]) ?_ 0 _ rfl;(with_reducible repeat(first|refine blk_drewN ?_ _|refine blk_drew ?_|refine blk_alloc ?_ _));exact a0.out) hb);replace HB:=zqm (below_step zq13 hb);clear hb;have q9:k2.cell? ⟨a3,0,none⟩=some (.slice e7 a4.length e2):=(blk_cell a0.out 0).trans rfl;have r0:k2.cell? ⟨a3,1,none⟩=some (.slice e8 a5.length e3):=(blk_cell a0.out 1).trans rfl;have s9:=blk_frozen a0.out 0;have t0:=blk_frozen a0.out 1)|((with_reducible refine gate_callee (f:=16) rfl ?_);refine goesL_ (some 14) rfl rfl Try.func16 zqk rfl #[.agg #[.slice e7 a4.length e2,.slice e8 a5.length e3]] rfl zq1 ?_;(with_reducible refine(spec_BooleanOk.calls k _ _ a4 _ _ a5 b2 _ ?side1 ?side2 ?side3 ?side4 A5.out).mono ?_);(case side1=> exact zq21);(case side2=>exact(Kd.S_reads' a2.out).2.1);(case side3=> exact zq24);(case side4=>exact(Kd.Q_reads' a1.out).2.1);rintro e k3 ⟨rfl,hb⟩;refine⟨_,rfl,?_⟩;replace a2:=zqm (Kd.S_below zq30 hb);replace a1:=zqm (Kd.Q_below zq25 hb);replace a0:=zqm (blk_below (g:=a3) (o:= .cells #[.slice e7 a4.length e2,.slice e8 a5.length e3] 26 (0,0)) zq2 hb);replace HB:=zqm (below_step zq13 hb);clear hb;have r1:k3.cell? ⟨a3,0,none⟩=some (.slice e7 a4.length e2):=(blk_cell a0.out 0).trans rfl;have r2:k3.cell? ⟨a3,1,none⟩=some (.slice e8 a5.length e3):=(blk_cell a0.out 1).trans rfl;have t1:=blk_frozen a0.out 0;have t2:=blk_frozen a0.out 1)|((with_reducible refine gate_callee (f:=17) rfl ?_);refine goesL_ (some 17) rfl rfl Try.func17 zqk rfl #[.agg #[.slice e7 a4.length e2,.slice e8 a5.length e3]] rfl zq1 ?_;(with_reducible refine(spec_LogicOk.calls k _ _ a4 _ _ a5 false _ ?side1 ?side2 ?side3 ?side4 h0.out).mono ?_);(case side1=> exact zq21);(case side2=>exact(Kd.S_reads' a2.out).2.1);(case side3=> exact zq24);(case side4=>exact(Kd.Q_reads' a1.out).2.1);rintro e a1i ⟨rfl,hb⟩;refine⟨_,rfl,?_⟩;replace a2:=zqm (Kd.S_below zq30 hb);replace a1:=zqm (Kd.Q_below zq25 hb);replace a0:=zqm (blk_below (g:=a3) (o:= .cells #[.slice e7 a4.length e2,.slice e8 a5.length e3] 26 (0,0)) zq2 hb);replace HB:=zqm (below_step zq13 hb);clear hb))
     go_ret
     exact⟨zq11,zq13⟩
    ·replace i0:=Bool.eq_false_iff.mpr i0;subst i0;(have H1:((laws_alive.f k).bind fun f1=>(some f1))=some r:=by rw [if_neg (show¬(false=true) by decide)] at H;exact H);clear H;have H:=H1;clear H1;replace H:=Option.bind_eq_some_iff.mp H;obtain⟨f1,i1,H⟩:=H;replace H:(some f1)=some r:=H;have o5:=zqm i1;clear i1;obtain rfl:=Option.some.inj H
     go_enter Try.func3,Try.ntmps3
     go_wp2_with (first|((with_reducible refine gate_callee (f:=14) rfl ?_);refine goesL_ (some 9) rfl rfl Try.func14 zqk rfl #[.slice A0 l0.length c0] rfl zq1 ?_;(with_reducible refine(spec_DrawBooleanOk.calls k _ _ l0 a4 a5 _ ?side1 ?side2 A3.out).mono ?_);(case side1=> exact zq76);(case side2=>exact h2.out);rintro e a1j ⟨g8,g9,rfl,a8,c3,hb⟩;refine⟨_,rfl,?_⟩;have a2:=zqm (Kd.S_lower a8 (below_size zq0));have a1:=zqm (Kd.Q_lower c3 (below_size zq0));replace HB:=zqm (below_step zq0 hb);clear hb a8 c3)|((with_reducible refine gate_dst (N:=3) rfl ?_);(try(refine gate_guard (by rfl) ?_;dsimp only));refine box_event ?hg (N:=3) ?hd (cs:= #[.slice none 0 0,.slice none 0 0]) (t:=26) ?hr ?_;(case hd=>rfl);(case hg=>rfl);(case hr=>first|(go_simp;done)|(go_simp;rfl));intro a3 hg k4 hbox hb;replace a2:=zqm (Kd.S_below zq30 hb);replace a1:=zqm (Kd.Q_below zq25 hb);have b5:=zqm (below_step zq0 hb);have a0:=zqm (hbox);have f9:=zqm ((by rw [hg];exact(below_size zq0):w.heap.size≤a3));have a7:=zqm ((by rw [hg];exact(below_size zq0):w.heap.size≤a3));clear HB;have HB:=b5;clear b5 hb hbox hg;obtain⟨d9,c5,m1⟩:=Kd.S_slice a2.out;subst m1;have r3:k4.cell? ⟨a3,0,none⟩=some (.slice none 0 0):=(blk_cell a0.out 0).trans rfl;have r4:k4.cell? ⟨a3,1,none⟩=some (.slice none 0 0):=(blk_cell a0.out 1).trans rfl;have t3:=blk_frozen a0.out 0;have t4:=blk_frozen a0.out 1;obtain⟨e0,c7,m2,_⟩:=Kd.Q_slice a1.out;subst m2)|((with_reducible refine gate_callee (f:=15) rfl ?_);refine goesL_ (some 11) rfl rfl Try.func15 zqk rfl #[.agg #[.slice d9 a4.length c5,.slice e0 a5.length c7]] rfl zq1 ?_;(with_reducible refine(impl_BooleanOk.calls _ _ a4 _ _ a5 false _ ?side1 ?side2 ?side3 ?side4 A4.out).mono ?_);(case side1=>refine(Kd.S_reads' (e:=24) (base:=w.heap.size) (ok:=fun k_=>some k_≠(.slice e0 a5.length c7:Value).ownBlock) (n:=a4.length) (c:=c5) ?_).2.2;exact zq194);(case side2=>exact(Kd.S_reads' a2.out).2.1);(case side3=>refine(Kd.Q_reads' (e:=3) (base:=w.heap.size) (ok:=fun k_=>True) (n:=a5.length) (c:=c7) ?_).2.2;exact zq151);(case side4=>exact(Kd.Q_reads' a1.out).2.1);rintro e k5 ⟨rfl,hb⟩;refine⟨_,rfl,?_⟩;replace a2:=zqm (Kd.S_below zq194 hb);replace a1:=zqm (Kd.Q_below zq151 hb);replace a0:=zqm (blk_below (g:=a3) (o:= .cells #[.slice d9 a4.length c5,.slice e0 a5.length c7] 26 (0,0)) (by(with_reducible repeat(first|refine blk_drewN ?_ _|refine blk_drew ?_|refine blk_alloc ?_ _));refine blk_put (cs:= #[.slice d9 a4.length c5,.slice none 0 0]) ?_ 1 _ rfl;(with_reducible repeat(first|refine blk_drewN ?_ _|refine blk_drew ?_|refine blk_alloc ?_ _));refine blk_put (cs:= #[.slice none 0 0,.slice none 0 0]) ?_ 0 _ rfl;(with_reducible repeat(first|refine blk_drewN ?_ _|refine blk_drew ?_|refine blk_alloc ?_ _));exact a0.out) hb);replace HB:=zqm (below_step zq13 hb);clear hb;have r5:k5.cell? ⟨a3,0,none⟩=some (.slice d9 a4.length c5):=(blk_cell a0.out 0).trans rfl;have r6:k5.cell? ⟨a3,1,none⟩=some (.slice e0 a5.length c7):=(blk_cell a0.out 1).trans rfl;have t5:=blk_frozen a0.out 0;have t6:=blk_frozen a0.out 1)|((with_reducible refine gate_callee (f:=16) rfl ?_);refine goesL_ (some 14) rfl rfl Try.func16 zqk rfl #[.agg #[.slice d9 a4.length c5,.slice e0 a5.length c7]] rfl zq1 ?_;(with_reducible refine(spec_BooleanOk.calls k _ _ a4 _ _ a5 b2 _ ?side1 ?side2 ?side3 ?side4 A5.out).mono ?_);(case side1=> exact zq21);(case side2=>exact(Kd.S_reads' a2.out).2.1);(case side3=> exact zq24);(case side4=>exact(Kd.Q_reads' a1.out).2.1);rintro e k6 ⟨rfl,hb⟩;refine⟨_,rfl,?_⟩;replace a2:=zqm (Kd.S_below zq30 hb);replace a1:=zqm (Kd.Q_below zq25 hb);replace a0:=zqm (blk_below (g:=a3) (o:= .cells #[.slice d9 a4.length c5,.slice e0 a5.length c7] 26 (0,0)) zq2 hb);replace HB:=zqm (below_step zq13 hb);clear hb;have r7:k6.cell? ⟨a3,0,none⟩=some (.slice d9 a4.length c5):=(blk_cell a0.out 0).trans rfl;have r8:k6.cell? ⟨a3,1,none⟩=some (.slice e0 a5.length c7):=(blk_cell a0.out 1).trans rfl;have t7:=blk_frozen a0.out 0;have t8:=blk_frozen a0.out 1)|((with_reducible refine gate_callee (f:=17) rfl ?_);refine goesL_ (some 17) rfl rfl Try.func17 zqk rfl #[.agg #[.slice d9 a4.length c5,.slice e0 a5.length c7]] rfl zq1 ?_;(with_reducible refine(spec_LogicOk.calls k _ _ a4 _ _ a5 false _ ?side1 ?side2 ?side3 ?side4 h0.out).mono ?_);(case side1=> exact zq21);(case side2=>exact(Kd.S_reads' a2.out).2.1);(case side3=> exact zq24);(case side4=>exact(Kd.Q_reads' a1.out).2.1);rintro e a1k ⟨rfl,hb⟩;refine⟨_,rfl,?_⟩;replace a2:=zqm (Kd.S_below zq30 hb);replace a1:=zqm (Kd.Q_below zq25 hb);replace a0:=zqm (blk_below (g:=a3) (o:= .cells #[.slice d9 a4.length c5,.slice e0 a5.length c7] 26 (0,0)) zq2 hb);replace HB:=zqm (below_step zq13 hb);clear hb)|(go_at_call 18;(with_reducible refine(laws_alive.calls k f1 _ o5.out).mono ?_);rintro e a1l ⟨rfl,hb⟩;replace a2:=zqm (Kd.S_below zq30 hb);replace a1:=zqm (Kd.Q_below zq25 hb);replace a0:=zqm (blk_below (g:=a3) (o:= .cells #[.slice d9 a4.length c5,.slice e0 a5.length c7] 26 (0,0)) zq2 hb);replace HB:=zqm (below_step zq13 hb);clear hb))
     go_ret
     exact⟨zq11,zq13⟩
def laws_FnBooleanOk.Pure : Prop := ∀ (l0 : List Int), l0.length ≤ maxLen → l0.length * 1 ≤ 140737488351232 → (∀ x ∈ l0, (Lit.int .u8 x).wf = true) → ∃ k, laws_FnBooleanOk.f k l0 = some true
theorem laws_FnBooleanOk.walk (P : laws_FnBooleanOk.Pure) (a0 : Option Addr) (len0 cap0 : Nat) (z0 : List Int) (w : World) (w0 : (a0 = none ∧ len0 = 0 ∧ cap0 = 0 ∧ z0 = []) ∨ ∃ x, a0 = some x ∧ len0 ≤ cap0 ∧ cap0 ≤ maxLen ∧ z0.length = cap0 ∧ (∀ i, i < z0.length → w.cell? (x.add i) = some (.int .u8 (z0.getD i 0))) ∧ ∀ n ∈ z0, (Lit.int .u8 n).wf = true) (y0 : len0 * 1 ≤ 140737488351232) :
  Calls Try.prog 3 #[.slice a0 len0 cap0] w fun e w' => e = .returned (.bool true) ∧ Below w.heap.size w w' := by
 obtain ⟨l0, rfl, hr0, hm0, hw0, hc0⟩ := ReadsInt.ofRowC w0
 obtain ⟨k, h⟩ := P l0 hm0 y0 hw0
 refine (laws_FnBooleanOk.calls k _ _ l0 true w (Kd.C_of_reads (d := (0 : Int)) (h1 := fun _ => rfl) hr0) hc0 h).mono ?_
 rintro e w' ⟨rfl, hd⟩
 exact ⟨rfl, hd⟩
end Go.Proofs.Ytcbjpdaogicibaa.Print
end
section
namespace Go.Proofs.Ytcbjpdaogicibaa.Print
open Go.RowKit Go.Proofs.YtcbjpdaogicibaaW.PrintWords Go.Proofs.YtcbjpdaogicibaaW.PrintLast Go.Proofs.YtcbjpdaogicibaaW.PrintMore
open Oml
theorem enc_b {n s b : Nat} (hb : b < n) : (s * n + b) % n = b := by rw [Nat.add_comm, Nat.add_mul_mod_self_right, Nat.mod_eq_of_lt hb]
theorem enc_s {n s b : Nat} (hb : b < n) : (s * n + b) / n = s := by rw [Nat.add_comm, Nat.add_mul_div_right _ _ (by omega), Nat.div_eq_of_lt hb, Nat.zero_add]
theorem enc_lt {n s b m : Nat} (hs : s < m) (hb : b < n) : s * n + b < m * n := by
  have : (s + 1) * n ≤ m * n := Nat.mul_le_mul_right n hs
  rw [Nat.succ_mul] at this
  omega
theorem tdiv_nat (i n : Nat) : Int.tdiv (i : Int) (n : Int) = ((i / n : Nat) : Int) := by first | exact (Int.ofNat_tdiv i n).symm | rfl
theorem tmod_nat (i n : Nat) : Int.tmod (i : Int) (n : Int) = ((i % n : Nat) : Int) := by first | exact (Int.ofNat_tmod i n).symm | rfl
theorem wrap_cast {x : Nat} (h : x < 1000000) : wrap64 (x : Int) = (x : Int) := wrap_small (by omega) (by omega)
theorem cube_small {n : Nat} (h : n ≤ 12) : n * n * n ≤ 1728 := by
  have h1 : n * n ≤ 144 := Nat.mul_le_mul h h
  exact Nat.mul_le_mul h1 h
theorem wrap_cube {n : Nat} (h : n ≤ 12) : wrap64 (wrap64 ((n : Int) * n) * n) = ((n * n * n : Nat) : Int) := by
  have h1:n*n≤144:=Nat.mul_le_mul h h
  have h2:=cube_small h
  rw [show (n:Int)*n=((n*n:Nat):Int) by simp,wrap_cast (by omega),show ((n*n:Nat):Int)*n=((n*n*n:Nat):Int) by simp,wrap_cast (by omega)]
theorem spec_l6Split.ev {U : List (List Int)} {N : List Int} (L : Logic U N) {a b c : Int} (ia : In U a) (ib : In U b) (ic : In U c) : Ev (fun k => spec_l6Split.f k U N a b c) (splitB U a b c) := by
  unfold spec_l6Split.f
  refine Ev.bind (join_in L ib ic) (Ev.bind (meet_in L ia (L.in_or ib ic)) (Ev.bind (meet_in L ia ib) (Ev.bind (meet_in L ia ic) (Ev.bind (join_in L (L.in_and ia ib) (L.in_and ia ic)) ?_))))
  exact Ev.now _
def booK (U : List (List Int)) (k : Nat) : Bool := splitB U ((k / U.length / U.length : Nat) : Int) ((k / U.length % U.length : Nat) : Int) ((k % U.length : Nat) : Int)
theorem booB_eq {U : List (List Int)} (hp : 1 ≤ U.length) : booB U = allN (U.length * U.length * U.length) (booK U) := by
  rw [Bool.eq_iff_iff]
  unfold booB booK
  simp only [allN_iff]
  constructor
  · intro H k hk
    have hi1:k / U.length<U.length*U.length:=Nat.div_lt_of_lt_mul (by rw [Nat.mul_comm];exact hk)
    exact H _ (Nat.div_lt_of_lt_mul hi1) _ (Nat.mod_lt _ hp) _ (Nat.mod_lt _ hp)
  · intro H a ha b hb c hc
    have:=H ((a*U.length+b)*U.length+c) (enc_lt (enc_lt ha hb) hc)
    rw [enc_b hc,enc_s hc,enc_b hb,enc_s hb] at this
    exact this
theorem spec_BooleanOk.ev (U : List (List Int)) (N : List Int) : Ev (fun k => spec_BooleanOk.f k U N) (if logicB U N = true then booB U else false) := by
  unfold spec_BooleanOk.f
  refine Ev.bind (spec_LogicOk.ev U N) ?_
  cases hl:logicB U N with
  |false=>exact Ev.ite_neg (by simp) (Ev.now _)
  |true=>
  have L:=logicB_iff.1 hl
  have hs:=L.small
  have hp:=L.pos
  have hc3:=cube_small hs
  rw [if_pos rfl,booB_eq hp,L.len]
  refine Ev.ite_pos rfl ?_
  refine Ev.eq (Ev.all (n:=U.length*U.length*U.length) (g:=fun k i=>spec_BooleanOk.l0 k (U.length:Int) i U N) (booK U) (go:=true) (stop:=false) (by omega) (fun _=>?_) fun i hi _ R hR=>?_) (by cases allN (U.length*U.length*U.length) (booK U) <;> rfl)
  · refine Ev.succ ?_
    simp only [spec_BooleanOk.l0,wrap_cube hs]
    exact Ev.ite_neg (by omega) (Ev.now _)
  · have hi1 : i / U.length < U.length * U.length := Nat.div_lt_of_lt_mul (by rw [Nat.mul_comm]; exact hi)
    have ha:i / U.length / U.length<U.length:=Nat.div_lt_of_lt_mul hi1
    have hb:i / U.length % U.length<U.length:=Nat.mod_lt _ hp
    have hc:i % U.length<U.length:=Nat.mod_lt _ hp
    have w1:wrap64 ((i / U.length:Nat):Int)=((i / U.length:Nat):Int):=wrap_cast (by have:U.length*U.length≤144:=Nat.mul_le_mul hs hs;omega)
    have w2:wrap64 ((i / U.length / U.length:Nat):Int)=((i / U.length / U.length:Nat):Int):=wrap_cast (by omega)
    have hK:booK U i=splitB U ((i / U.length / U.length:Nat):Int) ((i / U.length % U.length:Nat):Int) ((i % U.length:Nat):Int):=rfl
    rw [hK] at hR ⊢
    refine Ev.succ ?_
    simp only [spec_BooleanOk.l0,wrap_cube hs,tdiv_nat,tmod_nat,w1,w2]
    generalize i / U.length / U.length=a at*
    generalize i / U.length % U.length=b at*
    generalize i % U.length=c at*
    have Ia:In U (a:Int):=⟨by omega,by omega⟩
    have Ib:In U (b:Int):=⟨by omega,by omega⟩
    have Ic:In U (c:Int):=⟨by omega,by omega⟩
    have hlt:(i:Int)<((U.length*U.length*U.length:Nat):Int):=by omega
    have hne: ¬(U.length:Int)=0:=by omega
    refine Ev.ite_pos hlt (Ev.ite_neg hne (Ev.bind (spec_l6Split.ev L Ia Ib Ic) ?_))
    cases e:splitB U (a:Int) (b:Int) (c:Int) with
    |true=>exact Ev.ite_pos rfl (Ev.eq (hR e) (by simp))
    |false=>exact Ev.ite_neg (by simp) (Ev.eq (Ev.now _) (by simp))
def filN (n : Nat) (p : Nat → Bool) : List Nat := (List.range n).filter p
theorem filI_eq (n : Nat) (p : Nat → Bool) : filI n p = (filN n p).map fun (s : Nat) => (s : Int) := rfl
theorem filI_len (n : Nat) (p : Nat → Bool) : (filI n p).length = (filN n p).length := by rw [filI_eq, List.length_map]
theorem filN_at {n : Nat} {p : Nat → Bool} {i : Nat} (h : i < (filN n p).length) : (filN n p).getD i 0 < n ∧ p ((filN n p).getD i 0) = true := by
  rw [List.getD_eq_getElem?_getD, List.getElem?_eq_getElem h]
  have h1 := List.mem_filter.1 (List.getElem_mem h)
  exact ⟨by simpa using h1.1, h1.2⟩
theorem filN_len (n : Nat) (p : Nat → Bool) : (filN n p).length ≤ n := by
  have h1 := List.length_filter_le p (List.range n)
  rw [List.length_range] at h1
  exact h1
end Go.Proofs.Ytcbjpdaogicibaa.Print
end
section
namespace Go.Proofs.Ytcbjpdaogicibaa.Print
open Go.RowKit Go.Proofs.YtcbjpdaogicibaaW.PrintWords Go.Proofs.YtcbjpdaogicibaaW.PrintLast Go.Proofs.YtcbjpdaogicibaaW.PrintMore
open Oml
theorem hiP_congr {U : List (List Int)} {f f' : Nat → Nat} {a : Nat} : ∀ i, (∀ b, b < i → b ≠ a → leB U b a = true → f b = f' b) → hiP U f a i = hiP U f' a i
  |0,_=>rfl
  | i + 1, h => by
    have e:=hiP_congr i (fun b hb=>h b (by omega))
    unfold hiP
    by_cases c:i≠a∧leB U i a=true
    · rw [if_pos c,if_pos c,e,h i (by omega) c.1 c.2]
    · rw [if_neg c,if_neg c,e]
theorem hiP_none {U : List (List Int)} {f : Nat → Nat} {a : Nat} : ∀ i, (∀ b, b < i → b ≠ a → leB U b a = false) → hiP U f a i = 0
  |0,_=>rfl
  | i + 1, h => by
    unfold hiP
    rw [if_neg (fun c=>by rw [h i (by omega) c.1] at c;exact absurd c.2 (by simp))]
    exact hiP_none i (fun b hb=>h b (by omega))
def Deep (U : List (List Int)) : Nat → Nat → Prop
  | 0, a => ∀ b, b < U.length → b ≠ a → leB U b a = false
  | k + 1, a => ∀ b, b < U.length → b ≠ a → leB U b a = true → Deep U k b
theorem filt_lt {p q : Nat → Bool} : ∀ l : List Nat, (∀ x, x ∈ l → p x = true → q x = true) → (∃ x, x ∈ l ∧ q x = true ∧ p x = false) → (l.filter p).length < (l.filter q).length
  | [],_,⟨x,hx,_⟩=>absurd hx (by simp)
  | y :: l, h, ⟨x, hx, h1, h2⟩ => by
    have hle : ∀ l : List Nat, (∀ x, x ∈ l → p x = true → q x = true) → (l.filter p).length ≤ (l.filter q).length := by
      intro l
      induction l with
      |nil=>intro _;exact Nat.le_refl _
      | cons z l ih =>
        intro hh
        have:=ih fun x hx=>hh x (List.mem_cons_of_mem _ hx)
        cases hz:p z with
        |true=>simp [hz,hh z (by simp) hz];exact this
        |false=>cases hq:q z <;> simp [hz,hq] <;> omega
    have hl:=hle l fun x hx=>h x (List.mem_cons_of_mem _ hx)
    rcases List.mem_cons.1 hx with rfl|hx
    · simp [h1,h2];omega
    · have := filt_lt l (fun x hx => h x (List.mem_cons_of_mem _ hx)) ⟨x, hx, h1, h2⟩
      cases hz:p y with
      |true=>simp [hz,h y (by simp) hz];exact this
      |false=>cases hq:q y <;> simp [hz,hq] <;> omega
def cntB (U : List (List Int)) (a : Nat) : Nat := ((List.range U.length).filter fun b => !(b == a) && leB U b a).length
theorem cntB_lt {U : List (List Int)} (O : Order U) {a b : Nat} (ha : a < U.length) (hb : b < U.length) (hne : b ≠ a) (hle : leB U b a = true) : cntB U b < cntB U a := by
  refine filt_lt _ (fun x hx h=>?_) ⟨b,by simpa using hb,by simp [hne,hle],by simp⟩
  simp only [Bool.and_eq_true,Bool.not_eq_true',beq_eq_false_iff_ne] at h ⊢
  have hx':x<U.length:=by simpa using hx
  refine⟨fun e=>?_,O.trans x b a hx' hb ha h.2 hle⟩
  subst e
  exact h.1 (O.anti x b hx' hb h.2 hle)
theorem deep_cnt {U : List (List Int)} (O : Order U) : ∀ k a, a < U.length → cntB U a ≤ k → Deep U k a
  | 0, a, ha, h => fun b hb hne => by
    cases e:leB U b a with
    |false=>rfl
    |true=>have:=cntB_lt O ha hb hne e;omega
  |k+1,a,ha,h=>fun b hb hne hle=>deep_cnt O k b hb (by have:=cntB_lt O ha hb hne hle;omega)
theorem hiP_ge {U : List (List Int)} {f : Nat → Nat} {a : Nat} : ∀ m i, i < m → i ≠ a → leB U i a = true → f i + 1 ≤ hiP U f a m
  |0,i,h,_,_=>absurd h (Nat.not_lt_zero _)
  | m + 1, i, h, hne, hle => by
    unfold hiP
    by_cases e:i=m
    · subst e
      rw [if_pos ⟨hne,hle⟩]
      split <;> omega
    · have := hiP_ge (f := f) m i (by omega) hne hle
      split
      · split <;> omega
      · exact this
theorem hiP_at {U : List (List Int)} {f : Nat → Nat} {a : Nat} : ∀ m, hiP U f a m ≠ 0 → ∃ i, i < m ∧ i ≠ a ∧ leB U i a = true ∧ hiP U f a m = f i + 1
  |0,h=>absurd rfl h
  | m + 1, h => by
    unfold hiP at h ⊢
    by_cases c:m≠a∧leB U m a=true
    · rw [if_pos c] at h ⊢
      by_cases d:hiP U f a m<f m+1
      · rw [if_pos d]
        exact⟨m,by omega,c.1,c.2,rfl⟩
      · rw [if_neg d] at h ⊢
        obtain⟨i,h1,h2⟩:=hiP_at m h
        exact⟨i,by omega,h2⟩
    · rw [if_neg c] at h ⊢
      obtain⟨i,h1,h2⟩:=hiP_at m h
      exact⟨i,by omega,h2⟩
theorem deep_stable {U : List (List Int)} : ∀ k a, Deep U k a → ∀ j, hiF U (k + j) a = hiF U k a
  |0,a,h,0=>rfl
  | 0, a, h, j + 1 => by
    rw [Nat.zero_add]
    show hiP U (hiF U j) a U.length=0
    exact hiP_none _ (fun b hb hne=>h b hb hne)
  | k + 1, a, h, j => by
    rw [show k+1+j=(k+j)+1 by omega]
    show hiP U (hiF U (k+j)) a U.length=hiP U (hiF U k) a U.length
    exact hiP_congr _ (fun b hb hne hle=>deep_stable k b (h b hb hne hle) j)
section
variable {U : List (List Int)} {N : List Int} (L : Logic U N)
include L
theorem hi_below {a b : Nat} (ha : a < U.length) (hb : b < U.length) (hne : b ≠ a) (hle : leB U b a = true) : hiF U (U.length - 1) b = hiF U U.length b := by
  have h1:=cntB_lt L.toOrder ha hb hne hle
  have h2:cntB U a≤U.length:=by unfold cntB;exact Nat.le_trans (List.length_filter_le _ _) (by simp)
  have h3:=deep_stable _ _ (deep_cnt L.toOrder (U.length - 1) b hb (by omega)) 1
  rw [show U.length - 1+1=U.length by have:=L.pos;omega] at h3
  exact h3.symm
theorem hi_unfold (a : Nat) : hiF U U.length a = hiP U (hiF U (U.length - 1)) a U.length := by
  obtain ⟨m, hm⟩ : ∃ m, U.length = m + 1 := ⟨U.length - 1, by have := L.pos; omega⟩
  rw [hm]
  show hiP U (hiF U m) a U.length = _
  rw [hm]; rfl
theorem hi_high : L.ol.High (hi U) where
  mono := fun x y hxy hne => by
    have hn:x.1≠y.1:=fun e=>hne (Fin.ext e)
    show hiF U U.length x.1<hiF U U.length y.1
    rw [← hi_below L y.2 x.2 hn hxy,hi_unfold L y.1]
    exact hiP_ge _ _ x.2 hn hxy
  step := fun y hy => by
    have hy':hiF U U.length y.1≠0:=hy
    rw [hi_unfold L] at hy'
    obtain⟨i,h1,h2,h3,h4⟩:=hiP_at _ hy'
    refine⟨⟨i,h1⟩,h3,fun e=>h2 (congrArg Fin.val e),?_⟩
    show hiF U U.length i+1=hiF U U.length y.1
    rw [hi_unfold L y.1,h4,hi_below L y.2 h1 h2 h3]
end
end Go.Proofs.Ytcbjpdaogicibaa.Print
end
section
namespace Go.Proofs.Ytcbjpdaogicibaa.Print
open Go.RowKit Go.Proofs.YtcbjpdaogicibaaW.PrintWords Go.Proofs.YtcbjpdaogicibaaW.PrintLast Go.Proofs.YtcbjpdaogicibaaW.PrintMore
open Oml
theorem cN_le (p : Nat → Bool) : ∀ m, cN p m ≤ m
  | 0 => Nat.le_refl _
  | m + 1 => by have := cN_le p m; unfold cN; split <;> omega
theorem cN_zero {p : Nat → Bool} : ∀ m, cN p m = 0 ↔ ∀ c, c < m → p c = false
  |0=>⟨fun _ c h=>absurd h (Nat.not_lt_zero _),fun _=>rfl⟩
  | m + 1 => by
    unfold cN
    have ih:=cN_zero (p:=p) m
    constructor
    · intro h c hc
      cases e:p m with
      |true=>rw [e] at h;simp at h
      | false =>
        by_cases hcm:c=m
        · rw [hcm];exact e
        · exact ih.1 (by omega) c (by omega)
    · intro h
      rw [ih.2 (fun c hc=>h c (by omega)),h m (by omega)];rfl
theorem cN_split {p : Nat → Bool} {x y : Nat} (hx : p x = true) (hy : p y = true) (hne : x ≠ y) : ∀ m, cN p m = (if x < m then 1 else 0) + (if y < m then 1 else 0) + cN (fun c => p c && !(c == x) && !(c == y)) m
  |0=>rfl
  | m + 1 => by
    have ih:=cN_split hx hy hne m
    unfold cN
    rw [ih]
    by_cases e1:m=x
    · subst e1
      rw [if_pos hx,if_neg (show¬m<m by omega),if_pos (show m<m+1 by omega)]
      have:(p m && !(m==m) && !(m==y))=false:=by simp
      rw [this,if_neg (show¬(false=true) by simp)]
      by_cases h:y<m
      · rw [if_pos h,if_pos (by omega)];omega
      · rw [if_neg h,if_neg (by omega)];omega
    · by_cases e2 : m = y
      · subst e2
        rw [if_pos hy,if_neg (show¬m<m by omega),if_pos (show m<m+1 by omega)]
        have:(p m && !(m==x) && !(m==m))=false:=by simp
        rw [this,if_neg (show¬(false=true) by simp)]
        by_cases h:x<m
        · rw [if_pos h,if_pos (by omega)];omega
        · rw [if_neg h,if_neg (by omega)];omega
      · have h1 : (x < m + 1) = (x < m) := propext ⟨fun h => by omega, fun h => by omega⟩
        have h2:(y<m+1)=(y<m):=propext ⟨fun h=>by omega,fun h=>by omega⟩
        have h3:(p m && !(m==x) && !(m==y))=p m:=by rw [beq_eq_false_iff_ne.2 e1,beq_eq_false_iff_ne.2 e2,Bool.not_false,Bool.and_true,Bool.and_true]
        simp only [h1,h2,h3]
        omega
def atomB (U : List (List Int)) (a : Nat) : Bool := !((a : Int) == noI U) && cN (fun c => leB U c a) U.length == 2
section
variable {U : List (List Int)} {N : List Int} (L : Logic U N)
include L
theorem atomB_iff (x : Fin U.length) : atomB U x.1 = true ↔ x ≠ L.ol.bot ∧ ∀ y, L.ol.le y x → y = L.ol.bot ∨ y = x := by
  unfold atomB
  rw [no_fin L,Bool.and_eq_true,Bool.not_eq_true',fin_beq,decide_eq_false_iff_not,beq_iff_eq]
  constructor
  · rintro ⟨h1, h2⟩
    refine⟨h1,fun y hy=>?_⟩
    rw [cN_split (p:=fun c=>leB U c x.1) (x:=L.ol.bot.1) (y:=x.1) (L.ol.bot_le x) (L.ol.le_refl x) (fun e=>h1 (Fin.ext e.symm)),if_pos L.ol.bot.2,if_pos x.2] at h2
    have h5:cN (fun c=>leB U c x.1 && !(c==L.ol.bot.1) && !(c==x.1)) U.length=0:=by omega
    have h3:=(cN_zero _).1 h5 y.1 y.2
    have hy':leB U y.1 x.1=true:=hy
    rw [hy'] at h3
    by_cases e:y=L.ol.bot
    · exact .inl e
    · right
      apply Classical.byContradiction
      intro e2
      have e': ¬y.1=L.ol.bot.1:=fun e'=>e (Fin.ext e')
      have e2': ¬y.1=x.1:=fun e'=>e2 (Fin.ext e')
      simp [e',e2'] at h3
  · rintro ⟨h1, h2⟩
    refine⟨h1,?_⟩
    rw [cN_split (p:=fun c=>leB U c x.1) (x:=L.ol.bot.1) (y:=x.1) (L.ol.bot_le x) (L.ol.le_refl x) (fun e=>h1 (Fin.ext e.symm)),if_pos L.ol.bot.2,if_pos x.2,(cN_zero _).2 fun c hc=>?_]
    cases e:leB U c x.1 with
    |false=>simp
    | true =>
      rcases h2 ⟨c,hc⟩ e with h|h
      · have h' : c = L.ol.bot.1 := congrArg Fin.val h
        rw [h'];simp
      · have h' : c = x.1 := congrArg Fin.val h
        rw [h'];simp
theorem impl_AtomsOf.ev : Ev (fun k => impl_AtomsOf.f k U) (filI U.length (atomB U)) := by
  have hs:=L.small
  have hp:=L.pos
  unfold impl_AtomsOf.f
  refine Ev.bind (impl_LeastOf.ev U) ?_
  rw [if_pos (orderB_iff.2 L.toOrder),L.no_eq]
  have hno:noI U=(L.no.1:Int):=no_fin L
  refine Ev.ite_pos rfl ?_
  show Ev (fun k=>impl_AtomsOf.l0 k U (L.no.1:Int) [] (U.length:Int) 0) _
  refine Ev.loop (g:=fun k (s:List Int) i=>impl_AtomsOf.l0 k U (L.no.1:Int) s (U.length:Int) i) U.length (fun i s=>s=filI i (atomB U)) (by omega) (fun s h=>?_) (fun a s ha h=>?_) _ rfl
  · subst h
    refine Ev.succ ?_
    simp only [impl_AtomsOf.l0]
    exact Ev.ite_neg (by omega) (Ev.now _)
  · subst h
    refine⟨_,rfl,fun hnext=>Ev.succ ?_⟩
    have hfl:=filI_length a (atomB U)
    simp only [impl_AtomsOf.l0]
    refine Ev.ite_pos (by omega) ?_
    refine Ev.loop (g:=fun k (s:Int) c=>impl_AtomsOf.l1 k U (L.no.1:Int) (filI a (atomB U)) (a:Int) s (U.length:Int) (a:Int) (U.length:Int) c) U.length (fun c s=>s=((cN (fun c=>leB U c a) c:Nat):Int)) (by omega) (fun s h=>?_) (fun c s hc h=>?_) _ rfl
    · subst h
      refine Ev.succ ?_
      simp only [impl_AtomsOf.l1]
      refine Ev.ite_neg (by omega) ?_
      rw [filI_succ] at hnext
      by_cases e:a=L.no.1
      · have h2 : atomB U a = false := by unfold atomB; rw [hno, e]; simp
        rw [h2,if_neg (by simp)] at hnext
        exact Ev.ite_pos (by omega) hnext
      · refine Ev.ite_neg (by omega) ?_
        by_cases e2:cN (fun c=>leB U c a) U.length=2
        · have h2 : atomB U a = true := by unfold atomB; rw [hno, e2]; simp; omega
          rw [h2,if_pos rfl] at hnext
          exact Ev.ite_pos (by omega) (Ev.ite_pos (by omega) hnext)
        · have h2 : atomB U a = false := by unfold atomB; rw [Bool.and_eq_false_iff]; exact .inr (by simpa using e2)
          rw [h2,if_neg (by simp)] at hnext
          exact Ev.ite_neg (by omega) hnext
    · subst h
      have hrow:=L.row c hc
      have hcn:=cN_le (fun c=>leB U c a) c
      refine⟨_,rfl,fun hn2=>Ev.succ ?_⟩
      simp only [impl_AtomsOf.l1,rdL_nat,rd_nat,rd_row,hrow]
      refine Ev.ite_pos (by omega) (Ev.ite_pos (by omega) (Ev.ite_pos (by omega) (Ev.ite_pos (by omega) (Ev.ite_pos (by omega) ?_))))
      have hv : wrap64 (((cN (fun c => leB U c a) c : Nat) : Int) + at2 U c a) = ((cN (fun c => leB U c a) (c + 1) : Nat) : Int) := by
        rw [L.val hc ha]
        show _=((cN (fun c=>leB U c a) c+if leB U c a=true then 1 else 0:Nat):Int)
        cases leB U c a with
        |true=>rw [if_pos rfl,if_pos rfl,wrap_small (by omega) (by omega)];omega
        |false=>rw [if_neg (by simp),if_neg (by simp),wrap_small (by omega) (by omega)];omega
      rw [hv]
      exact hn2
end
end Go.Proofs.Ytcbjpdaogicibaa.Print
end
