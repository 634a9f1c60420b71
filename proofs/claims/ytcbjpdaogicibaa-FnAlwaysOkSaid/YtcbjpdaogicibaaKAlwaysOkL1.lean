/- Part 1 of what this is proved by: The law of AlwaysOk. -/
import Derived.Test.YtcbjpdaogicibaaLC8
import Derived.Below
import Derived.Deep.Draws
import Derived.Deep.AppendLies
import Derived.Maps.AppendAt
import Derived.OwnWalk
import Derived.Laws.BytesArg
import Derived.Laws.MakeOwn
import Derived.Laws.OwnMore
import Derived.Deep.OwnRows
import Derived.Tactics
import Derived.Lib.ConvBytes
import Derived.Laws.Slices
import Derived.WalkKit
import Derived.KernelRfl
import Derived.RowKit3
import Derived.Deep.LoopGhost
import Derived.Deep.QuietTactic
import Derived.BigQuiet
import Derived.WideLaws
import Derived.Deep.DeepCutAuto
import Derived.Deep.CutBlock
import Derived.Deep.RegionHeld3
import Derived.Laws.Rows
import Derived.Lib.AppendStr
import Derived.ArgAppend
import Derived.Laws.IdiomCopy
import Derived.RowKit
import Derived.Test.YtcbjpdaogicibaaProg
import Derived.OrdersHeld
import Derived.Laws.BitsLemmas
import Derived.Laws.Bits64b
import Derived.ProofKit
import Derived.OpenShut
set_option linter.all false
section
namespace Go.Proofs.YtcbjpdaogicibaaW.PrintWords
open Go.RowKit
section
def nums (k : IntKind) (xs : List Int) : List Value := xs.map fun x => .int k x
theorem own_lit (W : World) (base : Nat) (e : TypeId) (k : IntKind) (xs : List Int) (hb : base ≤ W.heap.size) (hm : xs.length ≤ 9223372036854775807) :
 (W.alloc (.cells (nums k xs).toArray e)).ownsRow base e 1 (.slice (some ⟨W.heap.size,0,none⟩) xs.length xs.length) xs.length (nums k xs):=by
 have h:=World.ownsRow_lit (base:=base) (e:=e) (size:=1) W (nums k xs).toArray xs.length hb (by simpa [maxLen] using hm) (by simp [nums])
 simpa using h
section
variable {P : Program}
theorem results_ct {fn : Func} {p u : Tmp} {ty : TypeId} (h : fn.results = #[.cell p ty, .tmp u]) (tmps : Array Value) (w : World) (g : Nat) (t : TypeId) (cs : Array Value) (fr : Nat × Nat) (d : TypeDesc)
 (hp:tmps.getD p undef= .pointer (some ⟨g,0,none⟩)) (hg:w.heap[g]? =some (.cells cs t fr))
 (hu:P.underlying ty=some d) (hd:(match d with| .struct _| .array _ _=>true|_=>false)=true) (hi:(P.info? ty).map (·.size)=some cs.size):
 (results fn tmps).run P w= .ok (.tuple #[.agg cs,tmps.getD u undef]) w:=by
 have hp':tmps[p]?.getD undef= .pointer (some ⟨g,0,none⟩):=by simpa using hp
 simp [results,h,hp',asAddr,run_loadVar_row w g t ty cs fr d hg hu hd hi]
end
namespace Kd
section
variable {α : Type} {d : Kd α} {e : Nat} {w w1 : World} {base : Nat} {ok ok' : Nat → Prop} {v : Value} {xs : List α}
theorem R_grown (h : d.R e w base ok v xs) {row : Option Nat} (hg : w.grownBy w1 row) (hok : ∀ k, ok k → some k ≠ row) : d.R e w1 base ok v xs := R_step h (fun k ho hk => hg.block k hk (hok k ho))
end
end Kd
end
end Go.Proofs.YtcbjpdaogicibaaW.PrintWords
end
section
namespace Go.Proofs.YtcbjpdaogicibaaW.PrintWords
open Go.RowKit
def shr (k : IntKind) (x y : Int) : Int := x / 2 ^ min y.toNat k.bits
theorem shr_small {k : IntKind} {x y j : Int} (h : shr k x y = j) (hy : y ≤ k.bits) : x / 2 ^ y.toNat = j := by rw [← h]; unfold shr; rw [Nat.min_eq_left (by omega)]
end Go.Proofs.YtcbjpdaogicibaaW.PrintWords

end
section
namespace Go.Proofs.Ytcbjpdaogicibaa
section
variable {p : Prop}
open Go.RowKit Go.Proofs.YtcbjpdaogicibaaW.PrintWords Go.Proofs.YtcbjpdaogicibaaW.PrintLast
theorem zq34 (h:p:=by repeat(first|exact(Kd.C_below a5.out HB.out)|(with_reducible refine Kd.C_alloc ?_ _)|(with_reducible refine Kd.C_drewN ?_ _)|(with_reducible refine Kd.C_drew ?_))):p:=h
theorem zq38 (h:p:=by repeat(first|exact(Kd.C_below a5.out (by repeat(first|(with_reducible first|exact HB.out|apply below_alloc|apply pw_below_drewN|apply below_drew1|refine below_set ?_ a4.out)|exact HB.out)))|(with_reducible refine Kd.C_alloc ?_ _)|(with_reducible refine Kd.C_drewN ?_ _)|(with_reducible refine Kd.C_drew ?_))):p:=h
theorem zq41 (h:p:=by repeat(first|exact(Kd.Q_reads' a5.out).2.2|(with_reducible refine Kd.C_alloc ?_ _)|(with_reducible refine Kd.C_drewN ?_ _)|(with_reducible refine Kd.C_drew ?_))):p:=h
theorem zq42 (h:p:=by repeat(first|exact(Kd.S_reads' a4.out).2.2|(with_reducible refine Kd.C_alloc ?_ _)|(with_reducible refine Kd.C_drewN ?_ _)|(with_reducible refine Kd.C_drew ?_))):p:=h
theorem zq44 (h:p:=by repeat(first|exact(Kd.C_below b1.out HB.out)|(with_reducible refine Kd.C_alloc ?_ _)|(with_reducible refine Kd.C_drewN ?_ _)|(with_reducible refine Kd.C_drew ?_))):p:=h
theorem zq47 (h:p:=by repeat(first|exact(Kd.Q_reads' HO_1113001.out).2.2|(with_reducible refine Kd.C_alloc ?_ _)|(with_reducible refine Kd.C_drewN ?_ _)|(with_reducible refine Kd.C_drew ?_))):p:=h
theorem zq48 (h:p:=by repeat(first|exact(Kd.S_reads' HO_1113000.out).2.2|(with_reducible refine Kd.C_alloc ?_ _)|(with_reducible refine Kd.C_drewN ?_ _)|(with_reducible refine Kd.C_drew ?_))):p:=h
theorem zq59 (h:p:=by repeat(first|(with_reducible first|exact HB.out|apply below_alloc|apply pw_below_drewN|apply below_drew1|refine below_set ?_ (IsS110.ge a1.out)|refine below_set ?_ a7.out)|exact HB.out)):p:=h
theorem zq73 (h:p:=by repeat(first|exact HB4.out|apply pw_below_drewN|apply below_drew1|apply below_alloc|apply below_set)):p:=h
theorem zq75 (h:p:=by repeat(first|(with_reducible first|exact a1.out|apply IsS110.alloc|apply IsS110.drewN|apply IsS110.drew|apply IsS110.set_1|refine IsS110.far ?_ a3.out _)|exact a1.out)):p:=h
theorem zq83 (h:p:=by repeat(first|exact(Kd.C_below b1.out (by repeat(first|(with_reducible first|exact HB.out|apply below_alloc|apply pw_below_drewN|apply below_drew1|refine below_set ?_ a5.out)|exact HB.out)))|(with_reducible refine Kd.C_alloc ?_ _)|(with_reducible refine Kd.C_drewN ?_ _)|(with_reducible refine Kd.C_drew ?_))):p:=h
theorem zq89 (h:p:=by repeat(first|exact j5.out|(with_reducible refine Kd.C_alloc ?_ _)|(with_reducible refine Kd.C_drewN ?_ _)|(with_reducible refine Kd.C_drew ?_))):p:=h
theorem zq101 (h:p:=by repeat(first|exact(Kd.C_below b5.out HB.out)|(with_reducible refine Kd.C_alloc ?_ _)|(with_reducible refine Kd.C_drewN ?_ _)|(with_reducible refine Kd.C_drew ?_))):p:=h
theorem zq106 (h:p:=by refine zqfQ ?_;exact(Kd.Q_mono (Kd.Q_far (p:=⟨a1,1,none⟩) (Kd.Q_far (p:=⟨a1,0,none⟩) (Kd.Q_types a5.out a0.out (by decide)) (fun _ hk=>hk.2) (.slice b0 a3.length a9)) (fun _ hk=>hk.2) (.slice a8 a2.length a7)) (fun _ h_=>h_.1))):p:=h
theorem zq107 (h:p:=by refine zqfQ ?_;exact(Kd.Q_mono (Kd.Q_far (p:=⟨a1,1,none⟩) (Kd.Q_far (p:=⟨a1,0,none⟩) (Kd.Q_types a5.out a0.out (by decide)) (fun _ hk=>hk.2) (.slice b7 a3.length b5)) (fun _ hk=>hk.2) (.slice b8 a2.length b6)) (fun _ h_=>h_.1))):p:=h
theorem zq108 (h:p:=by refine zqfQ ?_;exact(Kd.Q_mono (Kd.Q_far (p:=⟨a1,1,none⟩) (Kd.Q_far (p:=⟨a1,0,none⟩) (Kd.Q_types a5.out a0.out (by decide)) (fun _ hk=>hk.2) (.slice c8 a3.length b9)) (fun _ hk=>hk.2) (.slice c9 a2.length c7)) (fun _ h_=>h_.1))):p:=h
theorem zq109 (h:p:=by refine zqfQ ?_;exact(Kd.Q_mono (Kd.Q_far (p:=⟨a1,1,none⟩) (Kd.Q_far (p:=⟨a1,0,none⟩) (Kd.Q_types a5.out a0.out (by decide)) (fun _ hk=>hk.2) (.slice d6 a3.length d3)) (fun _ hk=>hk.2) (.slice d2 a2.length d1)) (fun _ h_=>h_.1))):p:=h
theorem zq125 (h:p:=by refine zqfS ?_;exact(Kd.S_mono (Kd.S_far (p:=⟨a1,1,none⟩) (Kd.S_far (p:=⟨a1,0,none⟩) (Kd.S_types a4.out a0.out (by decide)) (fun _ hk=>hk.2) (.slice b0 a3.length a9)) (fun _ hk=>hk.2) (.slice a8 a2.length a7)) (fun _ h_=>h_.1))):p:=h
theorem zq126 (h:p:=by refine zqfS ?_;exact(Kd.S_mono (Kd.S_far (p:=⟨a1,1,none⟩) (Kd.S_far (p:=⟨a1,0,none⟩) (Kd.S_types a4.out a0.out (by decide)) (fun _ hk=>hk.2) (.slice b7 a3.length b5)) (fun _ hk=>hk.2) (.slice b8 a2.length b6)) (fun _ h_=>h_.1))):p:=h
theorem zq127 (h:p:=by refine zqfS ?_;exact(Kd.S_mono (Kd.S_far (p:=⟨a1,1,none⟩) (Kd.S_far (p:=⟨a1,0,none⟩) (Kd.S_types a4.out a0.out (by decide)) (fun _ hk=>hk.2) (.slice c8 a3.length b9)) (fun _ hk=>hk.2) (.slice c9 a2.length c7)) (fun _ h_=>h_.1))):p:=h
theorem zq128 (h:p:=by refine zqfS ?_;exact(Kd.S_mono (Kd.S_far (p:=⟨a1,1,none⟩) (Kd.S_far (p:=⟨a1,0,none⟩) (Kd.S_types a4.out a0.out (by decide)) (fun _ hk=>hk.2) (.slice d6 a3.length d3)) (fun _ hk=>hk.2) (.slice d2 a2.length d1)) (fun _ h_=>h_.1))):p:=h
theorem zq156 (h:p:=by exact(Kd.Q_reads' a5.out).2.1):p:=h
theorem zq157 (h:p:=by exact(Kd.S_reads' a4.out).2.1):p:=h
theorem zq171 (h:p:=by (try simp only [List.map_toArray, List.map_cons, List.map_nil]); first | done | rfl):p:=h
theorem zq187 (h:p:=by have:=c6.out;have:=d7.out;have:=d8.out;omega):p:=h
theorem zq188 (h:p:=by exact(Kd.Q_reads' HO_1113001.out).2.1):p:=h
theorem zq189 (h:p:=by exact(Kd.S_reads' HO_1113000.out).2.1):p:=h
theorem zq200 (h:p:=by repeat(first|exact HB3.out|apply pw_below_drewN|apply below_drew1)):p:=h
theorem zq216 (h:p:=by first|go_num|(rw [wrap_small (by omega) (by have:=HLT.out;have:=HM2.out;omega)];go_num)):p:=h
theorem zq218 (h:p:=by first | (rw [← HSI.out]; exact HJj.out) | (rw [← HSI.out]; exact HD.out _ _ _ HJj.out)):p:=h
theorem zq223 (h:p:=by first|rfl|(simp;done)|(simp only [← a5] <;> (first|rfl|simp))|(simp [*];done)):p:=h
theorem zq229 (h:p:=by repeat(first|exact HUC.out|(refine Kd.C_drewN ?_ _)|(refine Kd.C_drew ?_))):p:=h
theorem zq241 (h:p:=by have:=HLT.out;have:=HM2.out;omega):p:=h
end
end Go.Proofs.Ytcbjpdaogicibaa
end
section
namespace Oml
section
universe u
namespace OL
variable {α : Type u} (L : OL α)
theorem le_neg_iff (a b : α) : L.le a (L.neg b) ↔ L.le b (L.neg a) := by
 constructor <;> intro h
 ·have:=L.neg_anti _ _ h;rwa [L.neg_neg] at this
 ·have:=L.neg_anti _ _ h;rwa [L.neg_neg] at this
theorem neg_inj {a b : α} (h : L.neg a = L.neg b) : a = b := by
 have := congrArg L.neg h; rwa [L.neg_neg, L.neg_neg] at this
theorem meet_comm (a b : α) : L.meet a b = L.meet b a :=
 L.le_antisymm _ _ (L.le_meet _ _ _ (L.meet_r _ _) (L.meet_l _ _)) (L.le_meet _ _ _ (L.meet_r _ _) (L.meet_l _ _))
theorem meet_le_l {a b c : α} (h : L.le a c) : L.le (L.meet a b) c := L.le_trans _ _ _ (L.meet_l _ _) h
theorem meet_le_r {a b c : α} (h : L.le b c) : L.le (L.meet a b) c := L.le_trans _ _ _ (L.meet_r _ _) h
theorem le_join_l {a b c : α} (h : L.le c a) : L.le c (L.join a b) := L.le_trans _ _ _ h (L.join_l _ _)
theorem le_join_r {a b c : α} (h : L.le c b) : L.le c (L.join a b) := L.le_trans _ _ _ h (L.join_r _ _)
theorem meet_mono {a b c d : α} (h : L.le a c) (k : L.le b d) : L.le (L.meet a b) (L.meet c d) := L.le_meet _ _ _ (L.meet_le_l h) (L.meet_le_r k)
theorem join_mono {a b c d : α} (h : L.le a c) (k : L.le b d) : L.le (L.join a b) (L.join c d) := L.join_le _ _ _ (L.le_join_l h) (L.le_join_r k)
theorem meet_assoc (a b c : α) : L.meet (L.meet a b) c = L.meet a (L.meet b c) :=
 L.le_antisymm _ _ (L.le_meet _ _ _ (L.meet_le_l (L.meet_l _ _)) (L.meet_mono (L.meet_r _ _) (L.le_refl _)))
  (L.le_meet _ _ _ (L.meet_mono (L.le_refl _) (L.meet_l _ _)) (L.meet_le_r (L.meet_r _ _)))
theorem join_assoc (a b c : α) : L.join (L.join a b) c = L.join a (L.join b c) :=
 L.le_antisymm _ _ (L.join_le _ _ _ (L.join_mono (L.le_refl _) (L.join_l _ _)) (L.le_join_r (L.join_r _ _)))
  (L.join_le _ _ _ (L.le_join_l (L.join_l _ _)) (L.join_mono (L.join_r _ _) (L.le_refl _)))
theorem join_eq_r (a b : α) : L.join a b = b ↔ L.le a b := by
 constructor
 ·intro h; rw [← h]; exact L.join_l _ _
 ·intro h; exact L.le_antisymm _ _ (L.join_le _ _ _ h (L.le_refl _)) (L.join_r _ _)
theorem join_eq_l (a b : α) : L.join a b = a ↔ L.le b a := by rw [L.join_comm]; exact L.join_eq_r b a
theorem meet_self (a : α) : L.meet a a = a := (L.meet_eq_l a a).2 (L.le_refl _)
theorem neg_join (a b : α) : L.neg (L.join a b) = L.meet (L.neg a) (L.neg b) := by
 apply L.neg_inj
 rw [L.neg_neg, L.neg_meet, L.neg_neg, L.neg_neg]
theorem neg_top : L.neg L.top = L.bot := L.neg_neg _
theorem join_bot (a : α) : L.join a L.bot = a := (L.join_eq_l _ _).2 (L.bot_le _)
theorem le_bot {a : α} (h : L.le a L.bot) : a = L.bot := L.le_antisymm _ _ h (L.bot_le _)
def Keeps : Prop := ∀ a b, L.le a b → L.join a (L.meet b (L.neg a)) = b
variable {L}
theorem C_refl (a : α) : L.C a a := by unfold C; rw [L.meet_self, L.meet_neg, L.join_bot]
theorem C_neg {a b : α} (h : L.C a b) : L.C a (L.neg b) := by unfold C at *; rw [L.neg_neg, L.join_comm]; exact h
theorem Keeps.eq_of (K : L.Keeps) {a b : α} (h : L.le a b) (k : L.meet b (L.neg a) = L.bot) : a = b := by
 have := K _ _ h; rw [k, L.join_bot] at this; exact this
theorem Keeps.C_symm (K : L.Keeps) {a b : α} (h : L.C a b) : L.C b a := by
 have h1:L.meet (L.neg a) b=L.meet (L.neg (L.meet a b)) b:=by
  have e:L.neg a=L.meet (L.neg (L.meet a b)) (L.neg (L.meet a (L.neg b))):=by rw [← L.neg_join,h]
  rw [e,L.meet_assoc]
  congr 1
  apply L.le_antisymm
  ·exact L.meet_r _ _
  ·refine L.le_meet _ _ _ ?_ (L.le_refl _)
   rw [L.neg_meet,L.neg_neg]
   exact L.join_r _ _
 have h2:=K _ _ (L.meet_r a b)
 unfold C
 rw [L.meet_comm b a,L.meet_comm b (L.neg a),h1,L.meet_comm (L.neg (L.meet a b)) b]
 exact h2
theorem Keeps.C_neg_l (K : L.Keeps) {a b : α} (h : L.C a b) : L.C (L.neg a) b := K.C_symm (C_neg (K.C_symm h))
theorem Keeps.comm_top_iff (K : L.Keeps) (a b : α) :
 L.join (L.meet a b) (L.join (L.meet a (L.neg b)) (L.join (L.meet (L.neg a) b) (L.meet (L.neg a) (L.neg b))))=L.top↔L.C a b:=by
 rw [← L.join_assoc]
 constructor
 ·intro h
  have hle:L.le (L.join (L.meet a b) (L.meet a (L.neg b))) a:=L.join_le _ _ _ (L.meet_l _ _) (L.meet_l _ _)
  have hle2:L.le (L.join (L.meet (L.neg a) b) (L.meet (L.neg a) (L.neg b))) (L.neg a):=L.join_le _ _ _ (L.meet_l _ _) (L.meet_l _ _)
  refine K.eq_of hle (L.le_bot ?_)
  have h2:=congrArg L.neg h
  rw [L.neg_join,L.neg_top] at h2
  rw [← h2]
  exact L.le_meet _ _ _ (L.meet_r _ _) (L.meet_le_l ((L.le_neg_iff _ _).1 hle2))
 ·intro h
  have h1:L.join (L.meet a b) (L.meet a (L.neg b))=a:=h
  have h2:L.join (L.meet (L.neg a) b) (L.meet (L.neg a) (L.neg b))=L.neg a:=K.C_neg_l h
  rw [h1,h2,L.join_neg]
end OL
end
theorem allN_false {n : Nat} {p : Nat → Bool} : allN n p = false ↔ ∃ i, i < n ∧ p i = false := by
 rw [← Bool.not_eq_true,allN_iff]
 constructor
 ·intro h
  apply Classical.byContradiction
  intro k
  exact h fun i hi=>by
   cases e:p i
   ·exact absurd ⟨i,hi,e⟩ k
   ·rfl
 ·rintro ⟨i,hi,e⟩ h
  rw [h i hi] at e
  exact absurd e (by simp)
end Oml
end
section
namespace Go.Proofs.Ytcbjpdaogicibaa.Print
open Go.RowKit Go.Proofs.YtcbjpdaogicibaaW.PrintWords Go.Proofs.YtcbjpdaogicibaaW.PrintLast Go.Proofs.YtcbjpdaogicibaaW.PrintMore
open Oml
section
def inR (n : Nat) (a : Int) : Bool := decide (0 ≤ a) && decide (a < (n : Int))
theorem inR_iff {U : List (List Int)} {a : Int} : inR U.length a = true ↔ In U a := by simp [inR, In]
namespace View
section
variable {W W1 : World} {g : Nat} {U : List (List Int)} {N : List Int} {v : Adr} (h : View W g U N v)
include h
theorem rowsU (L : Logic U N) : Kd.C (Kd.slice 3 (Kd.int .i64)) W (some v.aU) U.length U := by
 have hs:=L.small
 refine⟨rfl,by omega,fun _=>⟨v.aU,rfl,fun j p hp=>?_⟩⟩
 have hj:j<U.length:=(List.getElem?_eq_some_iff.1 hp).1
 have hin:In U (j:Int):=⟨by omega,by omega⟩
 have hpl:p.length=U.length:=by
  have:=L.row j hj
  rw [List.getD_eq_getElem?_getD,hp] at this
  exact this
 refine⟨[.slice (some (v.rU j)) p.length (v.qU j)],rfl,⟨some (v.rU j),v.qU j,rfl,by rw [hpl];have:=h.capR _ hin;simpa using this,?_⟩,fun i u hu=>?_⟩
 ·refine⟨rfl,by omega,fun _=>⟨v.rU j,rfl,fun i q hq=>?_⟩⟩
  have hi:i<p.length:=(List.getElem?_eq_some_iff.1 hq).1
  refine⟨[.int .i64 q],rfl,rfl,fun z u hu=>?_⟩
  have hz:z=0:=by
   rcases z with _|z
   ·rfl
   ·simp at hu
  subst hz
  have hu':Value.int .i64 q=u:=by simpa using hu
  subst hu'
  have:=h.u2 j i hin ⟨by omega,by omega⟩
  simp only [Int.toNat_natCast] at this
  show W.cell? ((v.rU j).add (i*1+0))=_
  rw [Nat.mul_one,Nat.add_zero,this]
  simp [at2,List.getD_eq_getElem?_getD,hp,hq]
 ·have hz:i=0:=by
   rcases i with _|z
   ·rfl
   ·simp at hu
  subst hz
  have hu':Value.slice (some (v.rU j)) p.length (v.qU j)=u:=by simpa using hu
  subst hu'
  have:=h.u j hin
  simp only [Int.toNat_natCast] at this
  show W.cell? (v.aU.add (j*1+0))=_
  rw [Nat.mul_one,Nat.add_zero,this,hpl]
end
end View
end
theorem lit_C (W : World) (e : TypeId) (xs : List Int) (hm : xs.length ≤ 9223372036854775807) :
 Kd.C (Kd.int .i64) (W.alloc (.cells (nums .i64 xs).toArray e)) (some ⟨W.heap.size,0,none⟩) xs.length xs:=
 (Kd.R_reads' (Kd.R_of_own (ok:=fun _=>True) (own_lit W W.heap.size e .i64 xs (Nat.le_refl _) hm) (fun _ _=>trivial))).2.2
theorem isAnswer_eq (U : List (List Int)) (a : Int) : impl_isAnswer.f U a = some (inR U.length a) := by
 unfold impl_isAnswer.f inR
 by_cases h:a≥0
 ·rw [if_pos h];simp [h]
 ·rw [if_neg h];simp;omega
theorem knows_nil (A : Option Addr) (n c : Nat) (w : World) :
 Calls Try.prog 87 #[.pointer none,.slice A n c] w fun e w'=>e= .returned (.bool false)∧Below w.heap.size w w':=by
 go_enter Try.func87,Try.ntmps87
 go_wp2_with fail
 go_ret
 exact⟨rfl,Below.refl _ _⟩
set_option maxHeartbeats 1000000 in
theorem knows_calls (g : Nat) (U : List (List Int)) (N : List Int) (v : Adr) (w : World) (L : Logic U N) (hV : View w g U N v) (A : Option Addr) (c : Nat) (xs : List Int) (n : Nat) (hn : xs.length = n)
 (hr:Kd.C (Kd.int .i64) w A n xs) (hs:n≤100) (b:Bool) (hb:xs.all (inR U.length)=b):
 Calls Try.prog 87 #[.pointer (some ⟨g,0,none⟩),.slice A n c] w fun e w'=>e= .returned (.bool b)∧Below w.heap.size w w':=by
 have hu70:=Try.underlying74
 have HV:=zqm hV
 have HR:=zqm hr
 have HL:=zqm L
 have HN:=zqm hn
 have HBB:=zqm hb
 clear hV hr L hn hb
 go_enter Try.func87,Try.ntmps87
 go_wp2_with fail
 go_loopg [11] (n+1) (fun kq v11 W=> ∃i m:Nat,v11= .int .i64 i∧Aside0 (i+kq=n+1)∧Aside0 (i≤n)∧Aside0 (∀j,j<i→inR U.length (at1 xs j)=true)∧W=w.drewN m)
 case atStart=>exact⟨0,0,rfl,⟨by omega⟩,⟨by omega⟩,⟨fun j hj=>absurd hj (by omega)⟩,rfl⟩
 case round=>
  obtain⟨i,m,rfl,HK,HK2,HS,rfl⟩:=hrel
  cases gk with
  |zero=>exact absurd HK.out (by have:=HK2.out;omega)
  |succ kn=>
  by_cases hlt:i<n
  ·have hlt':decide (i<n)=true:=decide_eq_true hlt
   have HLT:=zqm hlt
   obtain⟨ad,e,hx⟩:=ints_cell HR.out i (by omega) (by omega)
   subst e
   simp only [Int.toNat_natCast] at hx
   have p1:(i<n)=True:=eq_true hlt
   have h0:=HV.out.f0
   have HUC:=zqm (HV.out.rowsU HL.out)
   clear hlt
   cases hi:inR U.length (at1 xs i) with
   |true=>
    have HI:=zqm hi
    have HA:=zqm (show impl_isAnswer.f U (at1 xs i)=some true by rw [isAnswer_eq,hi])
    clear hi
    go_wp2_with (go_at_call 135;(with_reducible refine(impl_isAnswer.calls _ _ U (at1 xs i) true _ ?s1 ?s2 HA.out).mono ?_);(case s1=> exact zq229);(case s2=>exact HV.out.capU);rintro e w' ⟨rfl,⟨nd,rfl⟩⟩)
    go_roundg kn
    case measure=>omega
    case rel=>exact⟨i+1,_,by first|go_num|(rw [wrap_small (by omega) (by have:=HLT.out;omega)];go_num),⟨by have:=HK.out;omega⟩,⟨by have:=HLT.out;omega⟩,⟨fun j hj=>by
     rcases Nat.lt_or_ge j i with h|h
     ·exact HS.out j h
     ·obtain rfl:j=i:=by omega
      exact HI.out⟩,rfl⟩
   |false=>
    have HI:=zqm hi
    have HA:=zqm (show impl_isAnswer.f U (at1 xs i)=some false by rw [isAnswer_eq,hi])
    clear hi
    have hbf:b=false:=by
     rw [← HBB.out,Bool.eq_false_iff]
     intro h
     rw [List.all_eq_true] at h
     have hin:i<xs.length:=by have:=HN.out;have:=HLT.out;omega
     have:=h (xs[i]'hin) (List.getElem_mem _)
     have h2:=HI.out
     rw [show at1 xs i=xs[i]'hin by simp [at1,List.getD_eq_getElem?_getD,List.getElem?_eq_getElem hin],this] at h2
     exact absurd h2 (by simp)
    subst hbf
    go_wp2_with (go_at_call 135;(with_reducible refine(impl_isAnswer.calls _ _ U (at1 xs i) false _ ?s1 ?s2 HA.out).mono ?_);(case s1=> exact zq229);(case s2=>exact HV.out.capU);rintro e w' ⟨rfl,⟨nd,rfl⟩⟩)
    go_ret
    exact⟨rfl,zq193⟩
  ·have hlt':decide (i<n)=false:=decide_eq_false hlt
   obtain rfl:i=n:=by have:=HK2.out;omega
   have hbt:b=true:=by
    rw [← HBB.out,List.all_eq_true]
    intro x hx
    obtain⟨j,hj,rfl⟩:=List.mem_iff_getElem.1 hx
    have:=HS.out j (by have:=HN.out;omega)
    rwa [show at1 xs j=xs[j]'hj by simp [at1,List.getD_eq_getElem?_getD,List.getElem?_eq_getElem hj]] at this
   subst hbt
   clear hlt
   go_wp2_with fail
   go_ret
   exact⟨rfl,zq193⟩
theorem goesV_ {P : Program} {ops : Array Oper} {Q : Exit → Act → World → Prop} {rest : List Oper} {oi : Oper} {a : Act} {w : World} (N : Option Tmp) (hd : oi.dst = N) (hg : oi.guard = none) {f : FuncId} {fn : Func} {x : Operand} {xo : Array Operand} {ts : Array TypeId} {cs : Array Value}
 (hf : P.funcs[f]? = some fn) (hname : (fn.name == "runtime.NumGoroutine") = false) (hb : fn.body.isSome = true) (args : Array Value)
 (hop : oi.op = .call { callee := .value x, args := xo, argTypes := ts }) (hx : a.eval x = .func (.func f) #[] cs) (hargs : xo.map a.eval = args)
 (h : Calls P f (args ++ cs) w fun e w' => ∃ v, e = .returned v ∧ wpList P ops Q rest (a.put N v) w') : wpList P ops Q (oi :: rest) a w := by
 refine wpList_plain hg fun K hK => ?_
 have he := enters_ hf hname hb (args ++ cs) w
 have hrun : (execOp a.eval oi).run P w = .ok (.enter f (args ++ cs)) w := by
  unfold execOp
  simp [hop, resolve, Deferred.ofValue, invoke, hx, hargs, he]
 unfold Oper.wp
 rw [hrun, Oper.upon_enter]
 refine h.mono fun e w'' hh => ?_
 obtain ⟨v, rfl, hk⟩ := hh
 subst hd
 exact hK _ _ hk
set_option maxHeartbeats 1000000 in
set_option maxRecDepth 100000 in
theorem every_calls (g : Nat) (U : List (List Int)) (N : List Int) (v : Adr) (w : World) (hs : U.length ≤ 12) (fv : Nat) (fn : Func) (cs : Array Value) (hf : Try.prog.funcs[fv]? = some fn) (hname : (fn.name == "runtime.NumGoroutine") = false) (hb : fn.body.isSome = true)
 (p : Nat → Nat → Bool) (J : Nat → World → Prop) (hV : ∀ i w', J i w' → View w' g U N v) (hD : ∀ i w' n, J i w' → J i (w'.drewN n)) (h0 : J 0 w)
 (step : ∀ a b : Nat, a < U.length → b < U.length → ∀ w', J (a * U.length + b) w' → Calls Try.prog fv (#[.int .i64 a, .int .i64 b] ++ cs) w' fun e w'' => e = .returned (.bool (p a b)) ∧ J (a * U.length + b + 1) w'') :
 Calls Try.prog 71 #[.pointer (some ⟨g, 0, none⟩), .func (.func fv) #[] cs] w fun e w' =>
  e = .returned (.bool (allN U.length fun a => allN U.length fun b => p a b)) ∧ ∃ i, J i w' ∧ ((allN U.length fun a => allN U.length fun b => p a b) = true → i = U.length * U.length) := by
 obtain ⟨r, hr⟩ : ∃ r, r = allN U.length fun a => allN U.length fun b => p a b := ⟨_, rfl⟩
 rw [← hr]
 have hu70 := Try.underlying74
 have HF := Aside0.mk hf
 have HNM := Aside0.mk hname
 have HBD := Aside0.mk hb
 have HV := Aside0.mk hV
 have HD := Aside0.mk hD
 have HJ0 := Aside0.mk h0
 have HST := Aside0.mk step
 have HR := Aside0.mk hr
 have hf0 := (hV 0 w h0).f0
 clear hf hname hb hV hD h0 step hr
 go_enter Try.func71, Try.ntmps71
 go_wp2_with fail
 go_loopg [12] (U.length + 1) (fun kq v12 W => ∃ i s : Nat, v12 = .int .i64 i ∧ Aside0 (i + kq = U.length + 1) ∧ Aside0 (i ≤ U.length) ∧ Aside0 (s = i * U.length) ∧ Aside0 (∀ a, a < i → ∀ b, b < U.length → p a b = true) ∧ Aside0 (J s W))
 case atStart => exact ⟨0, 0, rfl, ⟨by omega⟩, ⟨by omega⟩, ⟨by simp⟩, ⟨fun j hj => absurd hj (by omega)⟩, ⟨by first | exact HJ0.out | exact HD.out _ _ _ HJ0.out⟩⟩
 case round =>
  clear hf0
  obtain ⟨i, s, rfl, HK, HK2, HSI, HS, HJ⟩ := hrel
  have hf0 := (HV.out _ _ HJ.out).f0
  cases gk with
  | zero => exact absurd HK.out (by have := HK2.out; omega)
  | succ kn =>
  by_cases hlt : i < U.length
  ·have hlt' : decide (i < U.length) = true := decide_eq_true hlt
   have HLT := Aside0.mk hlt
   clear hlt
   go_wp2_with fail
   go_loopg [20] (U.length + 1) (fun kq v20 W => ∃ j : Nat, v20 = .int .i64 j ∧ Aside0 (j + kq = U.length + 1) ∧ Aside0 (j ≤ U.length) ∧ Aside0 (∀ b, b < j → p i b = true) ∧ Aside0 (J (s + j) W))
   case atStart => exact ⟨0, rfl, ⟨by omega⟩, ⟨by omega⟩, ⟨fun j hj => absurd hj (by omega)⟩, ⟨by first | exact HJ.out | exact HD.out _ _ _ HJ.out⟩⟩
   case round =>
    clear hf0
    obtain ⟨j, rfl, HKj, HKj2, HSj, HJj⟩ := hrel
    cases gk with
    | zero => exact absurd HKj.out (by have := HKj2.out; omega)
    | succ kj =>
    by_cases hlj : j < U.length
    ·have hlj' : decide (j < U.length) = true := decide_eq_true hlj
     have HLJ := Aside0.mk hlj
     clear hlj
     cases hp : p i j with
     | true =>
      have HP := Aside0.mk hp
      clear hp
      go_wp2_with (refine goesV_ (some 26) rfl rfl HF.out HNM.out HBD.out #[.int .i64 i, .int .i64 j] rfl rfl zq171 ?_; refine (HST.out i j HLT.out HLJ.out _ ?sJ).mono ?_; (case sJ => exact zq218); rintro e w1 ⟨he, hj⟩; rw [HP.out] at he; subst he; refine ⟨_, rfl, ?_⟩; have HJ1 := Aside0.mk hj; clear hj)
      go_roundg kj
      case measure => omega
      case rel => exact ⟨j + 1, by first | go_num | (rw [wrap_small (by omega) (by have := HLJ.out; omega)]; go_num), ⟨by have := HKj.out; omega⟩, ⟨by have := HLJ.out; omega⟩, ⟨fun b hb => by
       rcases Nat.lt_or_ge b j with h | h
       ·exact HSj.out b h
       ·obtain rfl : b = j := by omega
        exact HP.out⟩, ⟨by have h1 := HJ1.out; rw [← HSI.out, Nat.add_assoc] at h1; first | exact h1 | exact HD.out _ _ _ h1⟩⟩
     | false =>
      have HP := Aside0.mk hp
      clear hp
      have hrf : r = false := by
       rw [HR.out]
       exact allN_false.2 ⟨i, HLT.out, allN_false.2 ⟨j, HLJ.out, HP.out⟩⟩
      subst hrf
      go_wp2_with (refine goesV_ (some 26) rfl rfl HF.out HNM.out HBD.out #[.int .i64 i, .int .i64 j] rfl rfl zq171 ?_; refine (HST.out i j HLT.out HLJ.out _ ?sJ).mono ?_; (case sJ => exact zq218); rintro e w1 ⟨he, hj⟩; rw [HP.out] at he; subst he; refine ⟨_, rfl, ?_⟩; have HJ1 := Aside0.mk hj; clear hj)
      go_ret
      exact ⟨rfl, _, by first | exact HJ1.out | exact HD.out _ _ _ HJ1.out, fun h => by cases h⟩
    ·have hlj' : decide (j < U.length) = false := decide_eq_false hlj
     obtain rfl : j = U.length := by have := HKj2.out; omega
     clear hlj
     go_wp2_with fail
     go_roundg kn
     case measure => omega
     case rel => exact ⟨i + 1, s + U.length, by first | go_num | (rw [wrap_small (by omega) (by have := HLT.out; omega)]; go_num), ⟨by have := HK.out; omega⟩, ⟨by have := HLT.out; omega⟩, ⟨by rw [Nat.succ_mul, HSI.out]⟩, ⟨fun a ha => by
      rcases Nat.lt_or_ge a i with h | h
      ·exact HS.out a h
      ·obtain rfl : a = i := by omega
       exact HSj.out⟩, ⟨by first | exact HJj.out | exact HD.out _ _ _ HJj.out⟩⟩
  ·have hlt' : decide (i < U.length) = false := decide_eq_false hlt
   obtain rfl : i = U.length := by have := HK2.out; omega
   have hrt : r = true := by
    rw [HR.out, allN_iff]
    intro a ha
    exact allN_iff.2 (HS.out a ha)
   subst hrt
   clear hlt
   go_wp2_with fail
   go_ret
   have hj := HJ.out
   rw [HSI.out] at hj
   exact ⟨rfl, by first | exact hj | exact HD.out _ _ _ hj⟩
theorem every_pure (g : Nat) (U : List (List Int)) (N : List Int) (v : Adr) (w : World) (hs : U.length ≤ 12) (hV : View w g U N v) (fv : Nat) (fn : Func) (cs : Array Value) (hf : Try.prog.funcs[fv]? = some fn) (hname : (fn.name == "runtime.NumGoroutine") = false) (hb : fn.body.isSome = true)
 (p : Nat → Nat → Bool) (step : ∀ a b : Nat, a < U.length → b < U.length → ∀ W, Below w.heap.size w W → Calls Try.prog fv (#[.int .i64 a, .int .i64 b] ++ cs) W fun e w'' => e = .returned (.bool (p a b)) ∧ Below W.heap.size W w'') :
 Calls Try.prog 71 #[.pointer (some ⟨g, 0, none⟩), .func (.func fv) #[] cs] w fun e w' => e = .returned (.bool (allN U.length fun a => allN U.length fun b => p a b)) ∧ Below w.heap.size w w' := by
 refine (every_calls g U N v w hs fv fn cs hf hname hb p (fun _ W => Below w.heap.size w W) (fun _ W h => hV.below h) (fun _ W n h => pw_below_drewN h n) (Below.refl _ _) (fun a b ha hb' W hW => ?_)).mono ?_
 ·refine (step a b ha hb' W hW).mono ?_
  rintro e w2 ⟨rfl, h2⟩
  exact ⟨rfl, below_step hW h2⟩
 ·rintro e w2 ⟨rfl, i, h2, _⟩
  exact ⟨rfl, h2⟩
def filI (n : Nat) (p : Nat → Bool) : List Int := ((List.range n).filter p).map fun (a : Nat) => (a : Int)
theorem filI_zero (p : Nat → Bool) : filI 0 p = [] := rfl
theorem filI_succ (n : Nat) (p : Nat → Bool) : filI (n + 1) p = if p n = true then filI n p ++ [(n : Int)] else filI n p := by
 unfold filI
 rw [List.range_succ,List.filter_append,List.map_append]
 cases h:p n <;> simp [h]
theorem filI_length (n : Nat) (p : Nat → Bool) : (filI n p).length ≤ n := by
 unfold filI
 rw [List.length_map]
 exact Nat.le_trans (List.length_filter_le _ _) (by simp)
theorem alg_with0.reads (g : Nat) (U : List (List Int)) (N : List Int) (v : Adr) (a : Int) (b : Int) (w : World) (L : Logic U N) (hV : View w g U N v) (ia : In U a) (ib : In U b) :
 Calls Try.prog 150 #[.pointer (some ⟨g,0,none⟩),.int .i64 a,.int .i64 b] w fun e w'=>e= .returned (.bool ((orI U (andI U a b) (andI U a (notI N b)))==a))∧Drawn0 w w':=by
 have hu70:=Try.underlying74
 have HV:=zqm hV
 have HLg:=zqm L
 have Ia:=zqm ia
 have Ib:=zqm ib
 clear hV L ia ib
 have b0_:=eq_true Ia.out.1;have c0_:=eq_true Ia.out.2
 have b1_:=eq_true Ib.out.1;have c1_:=eq_true Ib.out.2
 have hf1_:=HV.out.f1
 have r3_:=HV.out.m a Ia.out
 have s4_:=HV.out.m2 a b Ia.out Ib.out
 have hf3_:=HV.out.f3
 have n6_:=HV.out.n b Ib.out
 have IN1_:=zqm (HLg.out.in_not Ib.out)
 have b7_:=eq_true IN1_.out.1;have c7_:=eq_true IN1_.out.2
 have s8_:=HV.out.m2 a (notI N b) Ia.out IN1_.out
 have IN2_:=zqm (HLg.out.in_and Ia.out Ib.out)
 have b9_:=eq_true IN2_.out.1;have c9_:=eq_true IN2_.out.2
 have IN3_:=zqm (HLg.out.in_and Ia.out IN1_.out)
 have b10_:=eq_true IN3_.out.1;have c10_:=eq_true IN3_.out.2
 have hf2_:=HV.out.f2
 have r12_:=HV.out.j (andI U a b) IN2_.out
 have s13_:=HV.out.j2 (andI U a b) (andI U a (notI N b)) IN2_.out IN3_.out
 go_enter Try.func150,Try.ntmps150
 go_wp2_with fail
 go_quiet (fail)
 go_wp2
 go_ret
 exact⟨rfl,⟨⟨_,rfl⟩⟩⟩
theorem alg_with.reads (g : Nat) (U : List (List Int)) (N : List Int) (v : Adr) (a b : Int) (w : World) (L : Logic U N) (hV : View w g U N v) (ia : In U a) (ib : In U b) :
 Calls Try.prog 150 #[.pointer (some ⟨g,0,none⟩),.int .i64 a,.int .i64 b] w fun e w'=>e= .returned (.bool (withB U N a b))∧Drawn0 w w':=alg_with0.reads g U N v a b w L hV ia ib
def keepT (U : List (List Int)) (N : List Int) (a b : Int) : Bool := (at2 U a.toNat b.toNat == 0) || (orI U a (andI U b (notI N a)) == b)
def keepB (U : List (List Int)) (N : List Int) : Bool := allN U.length fun a => allN U.length fun b => keepT U N a b
def sameT (U : List (List Int)) (N : List Int) (f h : Fm) (a b c : Int) : Bool := valF U N a b c f == valF U N a b c h
def sameB (U : List (List Int)) (N : List Int) (f h : Fm) : Bool := allN U.length fun a => allN U.length fun b => allN U.length fun c => sameT U N f h a b c
def impl_ValueOf.f (l0_0 : List (List Int)) (l0_1 : List Int) (a1 : ByteArray) (a2 : Int) (a3 : Int) (a4 : Int) : Option (Int) := some (match fmOf a1 with
 |none=> -1
 |some f=>if logicB l0_0 l0_1=true then(if [a2,a3,a4].all (inR l0_0.length)=true then valF l0_0 l0_1 a2 a3 a4 f else -1) else -1)
set_option maxHeartbeats 4000000 in
theorem impl_ValueOf.calls (A0_0 : Option Addr) (c0_0 : Nat) (l0_0 : List (List Int)) (A0_1 : Option Addr) (c0_1 : Nat) (l0_1 : List Int) (a1 : ByteArray) (a2 : Int) (a3 : Int) (a4 : Int) (r : Int) (w : World) (hr0_0 : Kd.C (Kd.slice 3 (Kd.int .i64)) w A0_0 l0_0.length l0_0) (hc0_0 : l0_0.length ≤ c0_0) (hr0_1 : Kd.C (Kd.int .i64) w A0_1 l0_1.length l0_1) (hc0_1 : l0_1.length ≤ c0_1) (h : impl_ValueOf.f l0_0 l0_1 a1 a2 a3 a4 = some r) :
 Calls Try.prog 40 #[.agg #[.slice A0_0 l0_0.length c0_0,.slice A0_1 l0_1.length c0_1],.string a1,.int .i64 a2,.int .i64 a3,.int .i64 a4] w fun e w'=>e= .returned (.int .i64 r)∧Below w.heap.size w w':=by
 obtain⟨k,hF⟩:=told_facts l0_0
 have hu30:=Try.underlying26
 have hu70:=Try.underlying74
 have HF:=zqm hF
 have HR0:=zqm hr0_0
 have HC0:=zqm hc0_0
 have HR1:=zqm hr0_1
 have HC1:=zqm hc0_1
 simp only [impl_ValueOf.f,Option.some.injEq] at h
 clear hr0_0 hc0_0 hr0_1 hc0_1 hF
 have hu87:=Try.underlying97
 cases hfm:fmOf a1 with
 |none=>
  rw [hfm] at h
  have hr_:(-1)=r:=by simpa using h
  subst hr_
  have HFM:=zqm hfm
  cases hL:logicB l0_0 l0_1 with
  |false=>
   have HLB:=zqm hL
   clear h hL hfm
   go_enter Try.func40,Try.ntmps40
   go_wp2_with (first|((with_reducible refine gate_dst (N:=5) rfl ?_);refine box_event ?hg (N:=5) ?hd (cs:= #[.slice A0_0 l0_0.length c0_0,.slice A0_1 l0_1.length c0_1]) (t:=26) ?hr ?_;(case hd=>rfl);(case hg=>rfl);(case hr=> exact zq17);intro gb hg_ w1 hbox hb;have HB:=zqm hb;have hx0:w1.cell? ⟨gb,0,none⟩=some (.slice A0_0 l0_0.length c0_0):=(blk_cell hbox 0).trans rfl;have hx1:w1.cell? ⟨gb,1,none⟩=some (.slice A0_1 l0_1.length c0_1):=(blk_cell hbox 1).trans rfl;have HX:=zqm hbox;clear hbox hb hg_)|(go_at_call 70;(with_reducible refine(told_n k _ _ l0_0 _ _ l0_1 _ ?s1 ?s2 ?s3 ?s4 HF.out HLB.out).mono ?_);(case s1=> exact zq61);(case s2=>exact HC0.out);(case s3=> exact zq64);(case s4=>exact HC1.out);rintro e w2 ⟨rfl,hb⟩;have HB2:=zqm (below_step HB.out hb);clear hb hx0 hx1 HX HB)|(go_at_call 103;(with_reducible refine(formulaOf_calls a1 _).mono ?_);rintro e w3 ⟨hb,hm⟩;rw [HFM.out] at hm;obtain rfl:=hm;have HB3:=zqm (below_step HB2.out hb);clear hb))
   go_ret
   exact⟨rfl,HB3.out⟩
  |true=>
   have HLB:=zqm hL
   clear h hL hfm
   go_enter Try.func40,Try.ntmps40
   go_wp2_with (first|((with_reducible refine gate_dst (N:=5) rfl ?_);refine box_event ?hg (N:=5) ?hd (cs:= #[.slice A0_0 l0_0.length c0_0,.slice A0_1 l0_1.length c0_1]) (t:=26) ?hr ?_;(case hd=>rfl);(case hg=>rfl);(case hr=> exact zq17);intro gb hg_ w1 hbox hb;have HB:=zqm hb;have hx0:w1.cell? ⟨gb,0,none⟩=some (.slice A0_0 l0_0.length c0_0):=(blk_cell hbox 0).trans rfl;have hx1:w1.cell? ⟨gb,1,none⟩=some (.slice A0_1 l0_1.length c0_1):=(blk_cell hbox 1).trans rfl;have HX:=zqm hbox;clear hbox hb hg_)|(go_at_call 70;(with_reducible refine(told_y k _ _ l0_0 _ _ l0_1 _ ?s1 ?s2 ?s3 ?s4 HF.out HLB.out).mono ?_);(case s1=> exact zq61);(case s2=>exact HC0.out);(case s3=> exact zq64);(case s4=>exact HC1.out);rintro e w2 ⟨g,v,rfl,hv,hge,hb⟩;have HB2:=zqm (below_step HB.out hb);have HV:=zqm hv;clear hv hge hb hx0 hx1 HX HB)|(go_at_call 103;(with_reducible refine(formulaOf_calls a1 _).mono ?_);rintro e w3 ⟨hb,hm⟩;rw [HFM.out] at hm;obtain rfl:=hm;have HB3:=zqm (below_step HB2.out hb);clear hb))
   go_ret
   exact⟨rfl,HB3.out⟩
 |some f=>
  have HOK:=zqm (fmOf_ok hfm)
  rw [hfm] at h
  have HFM:=zqm hfm
  cases hL:logicB l0_0 l0_1 with
  |false=>
   rw [hL] at h
   have hr_:(-1)=r:=by simpa using h
   subst hr_
   have HLB:=zqm hL
   clear h hL hfm
   go_enter Try.func40,Try.ntmps40
   go_wp2_with (first|((with_reducible refine gate_dst (N:=5) rfl ?_);refine box_event ?hg (N:=5) ?hd (cs:= #[.slice A0_0 l0_0.length c0_0,.slice A0_1 l0_1.length c0_1]) (t:=26) ?hr ?_;(case hd=>rfl);(case hg=>rfl);(case hr=> exact zq17);intro gb hg_ w1 hbox hb;have HB:=zqm hb;have hx0:w1.cell? ⟨gb,0,none⟩=some (.slice A0_0 l0_0.length c0_0):=(blk_cell hbox 0).trans rfl;have hx1:w1.cell? ⟨gb,1,none⟩=some (.slice A0_1 l0_1.length c0_1):=(blk_cell hbox 1).trans rfl;have HX:=zqm hbox;clear hbox hb hg_)|(go_at_call 70;(with_reducible refine(told_n k _ _ l0_0 _ _ l0_1 _ ?s1 ?s2 ?s3 ?s4 HF.out HLB.out).mono ?_);(case s1=> exact zq61);(case s2=>exact HC0.out);(case s3=> exact zq64);(case s4=>exact HC1.out);rintro e w2 ⟨rfl,hb⟩;have HB2:=zqm (below_step HB.out hb);clear hb hx0 hx1 HX HB)|(go_at_call 103;(with_reducible refine(formulaOf_calls a1 _).mono ?_);rintro e w3 ⟨hb,hm⟩;rw [HFM.out] at hm;obtain⟨pf,rfl,hf⟩:=hm;have HB3:=zqm (below_step HB2.out hb);have HF3:=zqm hf;clear hb hf)|(go_at_call 87;(with_reducible refine(knows_nil _ _ _ _).mono ?_);rintro e w4 ⟨rfl,hb⟩;have HB4:=zqm (below_step (by repeat(first|exact HB3.out|apply below_alloc|apply pw_below_drewN|apply below_drew1)) hb);clear hb))
   go_ret
   exact⟨rfl,HB4.out⟩
  |true=>
   have HLB:=zqm hL
   have HLg:=zqm (logicB_iff.1 hL)
   cases hin: [a2,a3,a4].all (inR l0_0.length) with
   |false=>
    rw [hL] at h
    simp only [hin] at h
    have hr_:(-1)=r:=by simpa using h
    subst hr_
    have HIN:=zqm hin
    clear h hL hin hfm
    go_enter Try.func40,Try.ntmps40
    go_wp2_with (first|((with_reducible refine gate_dst (N:=5) rfl ?_);refine box_event ?hg (N:=5) ?hd (cs:= #[.slice A0_0 l0_0.length c0_0,.slice A0_1 l0_1.length c0_1]) (t:=26) ?hr ?_;(case hd=>rfl);(case hg=>rfl);(case hr=> exact zq17);intro gb hg_ w1 hbox hb;have HB:=zqm hb;have hx0:w1.cell? ⟨gb,0,none⟩=some (.slice A0_0 l0_0.length c0_0):=(blk_cell hbox 0).trans rfl;have hx1:w1.cell? ⟨gb,1,none⟩=some (.slice A0_1 l0_1.length c0_1):=(blk_cell hbox 1).trans rfl;have HX:=zqm hbox;clear hbox hb hg_)|(go_at_call 70;(with_reducible refine(told_y k _ _ l0_0 _ _ l0_1 _ ?s1 ?s2 ?s3 ?s4 HF.out HLB.out).mono ?_);(case s1=> exact zq61);(case s2=>exact HC0.out);(case s3=> exact zq64);(case s4=>exact HC1.out);rintro e w2 ⟨g,v,rfl,hv,hge,hb⟩;have HB2:=zqm (below_step HB.out hb);have HV:=zqm hv;clear hv hge hb hx0 hx1 HX HB)|(go_at_call 103;(with_reducible refine(formulaOf_calls a1 _).mono ?_);rintro e w3 ⟨hb,hm⟩;rw [HFM.out] at hm;obtain⟨pf,rfl,hf⟩:=hm;have HB3:=zqm (below_step HB2.out hb);have HF3:=zqm hf;have HV3:=zqm (View.below HV.out hb);clear hb hf)|(go_at_call 87;(with_reducible refine(knows_calls g l0_0 l0_1 v _ HLg.out ?s1 _ _ [a2,a3,a4] 3 rfl ?s2 (by omega) false HIN.out).mono ?_);(case s1=>exact View.alloc HV3.out _);(case s2=>exact lit_C _ _ [a2,a3,a4] (by simp));rintro e w4 ⟨rfl,hb⟩;have HB4:=zqm (below_step (below_alloc HB3.out _) hb);have HV4:=zqm (View.below (View.alloc HV3.out _) hb);have HF4:=zqm (FAt.below hb _ _ (FAt.below (below_alloc (Below.refl _ _) _) _ _ HF3.out));clear hb))
    go_ret
    exact⟨rfl,HB4.out⟩
   |true=>
    rw [hL] at h
    simp only [hin] at h
    have hr_:valF l0_0 l0_1 a2 a3 a4 f=r:=by simpa using h
    subst hr_
    have HIN:=zqm hin
    have hin2:=hin
    simp only [List.all_cons,List.all_nil,Bool.and_true,Bool.and_eq_true,inR_iff] at hin2
    have Ia2:=zqm hin2.1
    have Ia3:=zqm hin2.2.1
    have Ia4:=zqm hin2.2.2
    clear h hL hin hin2 hfm
    go_enter Try.func40,Try.ntmps40
    go_wp2_with (first|((with_reducible refine gate_dst (N:=5) rfl ?_);refine box_event ?hg (N:=5) ?hd (cs:= #[.slice A0_0 l0_0.length c0_0,.slice A0_1 l0_1.length c0_1]) (t:=26) ?hr ?_;(case hd=>rfl);(case hg=>rfl);(case hr=> exact zq17);intro gb hg_ w1 hbox hb;have HB:=zqm hb;have hx0:w1.cell? ⟨gb,0,none⟩=some (.slice A0_0 l0_0.length c0_0):=(blk_cell hbox 0).trans rfl;have hx1:w1.cell? ⟨gb,1,none⟩=some (.slice A0_1 l0_1.length c0_1):=(blk_cell hbox 1).trans rfl;have HX:=zqm hbox;clear hbox hb hg_)|(go_at_call 70;(with_reducible refine(told_y k _ _ l0_0 _ _ l0_1 _ ?s1 ?s2 ?s3 ?s4 HF.out HLB.out).mono ?_);(case s1=> exact zq61);(case s2=>exact HC0.out);(case s3=> exact zq64);(case s4=>exact HC1.out);rintro e w2 ⟨g,v,rfl,hv,hge,hb⟩;have HB2:=zqm (below_step HB.out hb);have HV:=zqm hv;clear hv hge hb hx0 hx1 HX HB)|(go_at_call 103;(with_reducible refine(formulaOf_calls a1 _).mono ?_);rintro e w3 ⟨hb,hm⟩;rw [HFM.out] at hm;obtain⟨pf,rfl,hf⟩:=hm;have HB3:=zqm (below_step HB2.out hb);have HF3:=zqm hf;have HV3:=zqm (View.below HV.out hb);clear hb hf)|(go_at_call 87;(with_reducible refine(knows_calls g l0_0 l0_1 v _ HLg.out ?s1 _ _ [a2,a3,a4] 3 rfl ?s2 (by omega) true HIN.out).mono ?_);(case s1=>exact View.alloc HV3.out _);(case s2=>exact lit_C _ _ [a2,a3,a4] (by simp));rintro e w4 ⟨rfl,hb⟩;have HB4:=zqm (below_step (below_alloc HB3.out _) hb);have HV4:=zqm (View.below (View.alloc HV3.out _) hb);have HF4:=zqm (FAt.below hb _ _ (FAt.below (below_alloc (Below.refl _ _) _) _ _ HF3.out));clear hb)|(go_at_call 104;(with_reducible refine(value_calls g l0_0 l0_1 v HLg.out a2 a3 a4 Ia2.out Ia3.out Ia4.out f pf _ HV4.out HF4.out HOK.out).mono ?_);rintro e w5 ⟨rfl,hb⟩;have HB5:=zqm (below_step HB4.out hb);clear hb))
    go_ret
    exact⟨rfl,HB5.out⟩
def impl_SameOk_1.T4 : Bool × List (List Nat × List Nat) := (true, [([], []), ([], []), ([], []), ([], []), ([], []), ([2, 3, 4], [2, 3, 4]), ([0, 1, 5], [0, 1, 5]), ([], []), ([], []), ([], []), ([], []), ([], []), ([9, 10, 11], [9, 10, 11]), ([7, 8, 12, 6], [7, 8, 12]), ([6, 13], [6, 13])])
def impl_SameOk_1.B4 : List Nat := [0, 0, 0, 0, 0, 28, 63, 0, 0, 0, 0, 0, 3584, 8191, 16383]
theorem impl_SameOk_1.tab4 : rtab .any (opsOf Try.f120 4) = impl_SameOk_1.T4 := by kernel_rfl
theorem impl_SameOk_1.bits4 : waitsOk impl_SameOk_1.T4.2 impl_SameOk_1.B4 = true := by kernel_rfl
set_option maxHeartbeats 4000000 in
set_option maxRecDepth 100000 in
theorem same_c1 (g : Nat) (U : List (List Int)) (N : List Int) (v : Adr) (w : World) (L : Logic U N) (gG gF gH pf ph : Nat) (f h : Fm) (of : f.ok) (oh : h.ok) (a b : Int) (ia : In U a) (ib : In U b) (hI : SameI w g U N v gG gF gH pf ph f h) :
 Calls Try.prog 120 #[.int .i64 a,.int .i64 b,.pointer (some ⟨gG,0,none⟩),.pointer (some ⟨gF,0,none⟩),.pointer (some ⟨gH,0,none⟩)] w fun e w'=>e= .returned (.bool (allN U.length fun c=>sameT U N f h a b c))∧Below w.heap.size w w':=by
 obtain⟨r,hr⟩: ∃r,r=allN U.length fun c=>sameT U N f h a b c:=⟨_,rfl⟩
 rw [← hr]
 have hu70:=Try.underlying74
 have HR:=zqm hr
 have HLg:=zqm L
 have HSM:=zqm L.small
 have OF:=zqm of
 have OH:=zqm oh
 have Ia:=zqm ia
 have Ib:=zqm ib
 have HI0:=zqm hI
 have hg0:w.cell? ⟨gG,0,none⟩=some (.pointer (some ⟨g,0,none⟩)):=(blk_cell hI.bG 0).trans rfl
 have hf0:=hI.view.f0
 clear hr L of oh ia ib hI
 go_enter Try.func120,Try.ntmps120
 go_wp2_with fail
 go_loopg [14] (U.length+1) (fun kq v14 W=> ∃i:Nat,v14= .int .i64 i∧Aside0 (i+kq=U.length+1)∧Aside0 (i≤U.length)∧Aside0 (∀c:Nat,c<i→sameT U N f h a b c=true)∧Aside0 (SameI W g U N v gG gF gH pf ph f h)∧Aside0 (Below w.heap.size w W))
 case atStart=>exact⟨0,rfl,⟨by omega⟩,⟨by omega⟩,⟨fun j hj=>absurd hj (by omega)⟩,⟨by first|exact HI0.out|exact HI0.out.below (pw_below_drewN (Below.refl _ _) _)⟩,⟨zq193⟩⟩
 case round=>
  clear hg0 hf0 HI0
  obtain⟨i,rfl,HK,HK2,HS,HI,HB⟩:=hrel
  have hg0:=(blk_cell HI.out.bG 0).trans rfl
  have hf0:=HI.out.view.f0
  cases gk with
  |zero=>exact absurd HK.out (by have:=HK2.out;omega)
  |succ kn=>
  by_cases hlt:i<U.length
  ·have hlt':decide (i<U.length)=true:=decide_eq_true hlt
   have HLT:=zqm hlt
   have Ic:=zqm (show In U (i:Int) from ⟨by omega,by omega⟩)
   clear hlt
   obtain⟨x,hx⟩: ∃x,valF U N a b i f=x:=⟨_,rfl⟩
   obtain⟨y,hy⟩: ∃y,valF U N a b i h=y:=⟨_,rfl⟩
   have hT:sameT U N f h a b i=(x==y):=by rw [← hx,← hy];rfl
   have HX:=zqm hx
   have HY:=zqm hy
   clear hx hy
   by_cases hxy:x=y
   ·have HT:=zqm (show sameT U N f h a b i=true by rw [hT,hxy];simp)
    have q1:(x !=y)=false:=by rw [hxy];simp
    clear hT hxy
    go_wp2_with fail
    have HI1:=zqm (HI.out.below (below_drew1 (Below.refl _ _)))
    have HB1:=zqm (below_drew1 HB.out)
    clear hg0 hf0 HI HB
    refine start_ (n:=15) (S:=(fun w'=>w'.cell? ⟨gG,0,none⟩=some (.pointer (some ⟨g,0,none⟩))∧w'.cell? ⟨gF,0,none⟩=some (.pointer (some ⟨pf,0,none⟩))∧w'.cell? ⟨gH,0,none⟩=some (.pointer (some ⟨ph,0,none⟩)))) (ds:= []) (zqb 15 0) zqk rfl rfl ⟨(blk_cell HI1.out.bG 0).trans rfl,(blk_cell HI1.out.bF 0).trans rfl,(blk_cell HI1.out.bH 0).trans rfl⟩ (fun hHeld=>?_)
    refine with_tabW impl_SameOk_1.tab4 impl_SameOk_1.bits4 (fun HT_ HW_=>?_)
    generalize World.drew _=w1 at hHeld HI1 HB1 ⊢
    refine zqw 0 17 (zqb 15 1) HT_ HW_ hHeld ?_
    refine zqw 1 18 (zqb 15 3) HT_ HW_ hHeld ?_
    refine zqp 2 19 (zqb 15 7) HT_ ?_
    refine zqp 3 20 (zqb 15 15) HT_ ?_
    refine zqp 4 21 (zqb 15 31) HT_ ?_
    refine zqp 5 22 (zqb 15 63) HT_ ?_
    refine zqw 7 24 (zqb 15 191) HT_ HW_ hHeld ?_
    refine zqw 8 25 (zqb 15 447) HT_ HW_ hHeld ?_
    refine zqp 9 26 (zqb 15 959) HT_ ?_
    refine zqp 10 27 (zqb 15 1983) HT_ ?_
    refine zqp 11 28 (zqb 15 4031) HT_ ?_
    refine zqp 12 29 (zqb 15 8127) HT_ ?_
    refine one_ (i:=6) (N:=some 23) (zqb 15 8191) rfl rfl (one_of HT_.out zqk) (by decide) (fun K hK=>?_)
    refine goes_ Try.func104 zqk rfl #[.pointer (some ⟨g,0,none⟩),.pointer (some ⟨pf,0,none⟩),.agg #[.int .i64 a,.int .i64 b,.int .i64 (i:Int)]] (by rfl) rfl rfl zq70 ?_
    refine(value_calls g U N v HLg.out a b (i:Int) Ia.out Ib.out Ic.out f pf w1 HI1.out.view HI1.out.tf OF.out).mono ?_
    rintro e w2 ⟨he,hb⟩
    rw [HX.out] at he
    subst he
    refine⟨_,rfl,?_⟩
    have HI2:=zqm (HI1.out.below hb)
    have HB2:=zqm (below_step HB1.out hb)
    refine hK.out _ _ ⟨(blk_cell HI2.out.bG 0).trans rfl,(blk_cell HI2.out.bF 0).trans rfl,(blk_cell HI2.out.bH 0).trans rfl⟩ (fun hHeld2=>?_)
    clear hK K hb HI1 HB1
    refine norm_ (a':=?_) ?_ ?_
    rotate_left
    ·show Act.put _ (some 23) _=_
     simp only [Act.put,List.setIfInBounds_toArray,List.set_cons_zero,List.set_cons_succ,i64_w,i32_w]
     rfl
    refine one_ (i:=13) (N:=some 30) (zqb 15 16383) rfl rfl (one_of HT_.out zqk) (by decide) (fun K hK=>?_)
    refine goes_ Try.func104 zqk rfl #[.pointer (some ⟨g,0,none⟩),.pointer (some ⟨ph,0,none⟩),.agg #[.int .i64 a,.int .i64 b,.int .i64 (i:Int)]] (by rfl) rfl rfl zq70 ?_
    refine(value_calls g U N v HLg.out a b (i:Int) Ia.out Ib.out Ic.out h ph w2 HI2.out.view HI2.out.th OH.out).mono ?_
    rintro e w3 ⟨he,hb⟩
    rw [HY.out] at he
    subst he
    refine⟨_,rfl,?_⟩
    have HI3:=zqm (HI2.out.below hb)
    have HB3:=zqm (below_step HB2.out hb)
    refine hK.out _ _ ⟨(blk_cell HI3.out.bG 0).trans rfl,(blk_cell HI3.out.bF 0).trans rfl,(blk_cell HI3.out.bH 0).trans rfl⟩ (fun hHeld3=>?_)
    clear hK K hb HI2 HB2
    refine norm_ (a':=?_) ?_ ?_
    rotate_left
    ·show Act.put _ (some 30) _=_
     simp only [Act.put,List.setIfInBounds_toArray,List.set_cons_zero,List.set_cons_succ,i64_w,i32_w]
     rfl
    refine zqp 14 31 (zqb 15 32767) HT_ ?_
    refine done_ (done_of HT_.out zqk) ?_
    go_wp2
    go_roundg kn
    case measure=>omega
    case rel=>exact⟨i+1,zq217,⟨by have:=HK.out;omega⟩,⟨by have:=HLT.out;omega⟩,⟨fun c hc=>by
     rcases Nat.lt_or_ge c i with h|h
     ·exact HS.out c h
     ·obtain rfl:c=i:=by omega
      exact HT.out⟩,⟨by first|exact HI3.out|exact HI3.out.below (pw_below_drewN (Below.refl _ _) _)⟩,⟨zq200⟩⟩
   ·have hrf:r=false:=by
     rw [HR.out]
     exact allN_false.2 ⟨i,HLT.out,by rw [hT,beq_eq_false_iff_ne];exact hxy⟩
    subst hrf
    have q1:(x !=y)=true:=bne_iff_ne.2 hxy
    clear hT hxy
    go_wp2_with fail
    have HI1:=zqm (HI.out.below (below_drew1 (Below.refl _ _)))
    have HB1:=zqm (below_drew1 HB.out)
    clear hg0 hf0 HI HB
    refine start_ (n:=15) (S:=(fun w'=>w'.cell? ⟨gG,0,none⟩=some (.pointer (some ⟨g,0,none⟩))∧w'.cell? ⟨gF,0,none⟩=some (.pointer (some ⟨pf,0,none⟩))∧w'.cell? ⟨gH,0,none⟩=some (.pointer (some ⟨ph,0,none⟩)))) (ds:= []) (zqb 15 0) zqk rfl rfl ⟨(blk_cell HI1.out.bG 0).trans rfl,(blk_cell HI1.out.bF 0).trans rfl,(blk_cell HI1.out.bH 0).trans rfl⟩ (fun hHeld=>?_)
    refine with_tabW impl_SameOk_1.tab4 impl_SameOk_1.bits4 (fun HT_ HW_=>?_)
    generalize World.drew _=w1 at hHeld HI1 HB1 ⊢
    refine zqw 0 17 (zqb 15 1) HT_ HW_ hHeld ?_
    refine zqw 1 18 (zqb 15 3) HT_ HW_ hHeld ?_
    refine zqp 2 19 (zqb 15 7) HT_ ?_
    refine zqp 3 20 (zqb 15 15) HT_ ?_
    refine zqp 4 21 (zqb 15 31) HT_ ?_
    refine zqp 5 22 (zqb 15 63) HT_ ?_
    refine zqw 7 24 (zqb 15 191) HT_ HW_ hHeld ?_
    refine zqw 8 25 (zqb 15 447) HT_ HW_ hHeld ?_
    refine zqp 9 26 (zqb 15 959) HT_ ?_
    refine zqp 10 27 (zqb 15 1983) HT_ ?_
    refine zqp 11 28 (zqb 15 4031) HT_ ?_
    refine zqp 12 29 (zqb 15 8127) HT_ ?_
    refine one_ (i:=6) (N:=some 23) (zqb 15 8191) rfl rfl (one_of HT_.out zqk) (by decide) (fun K hK=>?_)
    refine goes_ Try.func104 zqk rfl #[.pointer (some ⟨g,0,none⟩),.pointer (some ⟨pf,0,none⟩),.agg #[.int .i64 a,.int .i64 b,.int .i64 (i:Int)]] (by rfl) rfl rfl zq70 ?_
    refine(value_calls g U N v HLg.out a b (i:Int) Ia.out Ib.out Ic.out f pf w1 HI1.out.view HI1.out.tf OF.out).mono ?_
    rintro e w2 ⟨he,hb⟩
    rw [HX.out] at he
    subst he
    refine⟨_,rfl,?_⟩
    have HI2:=zqm (HI1.out.below hb)
    have HB2:=zqm (below_step HB1.out hb)
    refine hK.out _ _ ⟨(blk_cell HI2.out.bG 0).trans rfl,(blk_cell HI2.out.bF 0).trans rfl,(blk_cell HI2.out.bH 0).trans rfl⟩ (fun hHeld2=>?_)
    clear hK K hb HI1 HB1
    refine norm_ (a':=?_) ?_ ?_
    rotate_left
    ·show Act.put _ (some 23) _=_
     simp only [Act.put,List.setIfInBounds_toArray,List.set_cons_zero,List.set_cons_succ,i64_w,i32_w]
     rfl
    refine one_ (i:=13) (N:=some 30) (zqb 15 16383) rfl rfl (one_of HT_.out zqk) (by decide) (fun K hK=>?_)
    refine goes_ Try.func104 zqk rfl #[.pointer (some ⟨g,0,none⟩),.pointer (some ⟨ph,0,none⟩),.agg #[.int .i64 a,.int .i64 b,.int .i64 (i:Int)]] (by rfl) rfl rfl zq70 ?_
    refine(value_calls g U N v HLg.out a b (i:Int) Ia.out Ib.out Ic.out h ph w2 HI2.out.view HI2.out.th OH.out).mono ?_
    rintro e w3 ⟨he,hb⟩
    rw [HY.out] at he
    subst he
    refine⟨_,rfl,?_⟩
    have HI3:=zqm (HI2.out.below hb)
    have HB3:=zqm (below_step HB2.out hb)
    refine hK.out _ _ ⟨(blk_cell HI3.out.bG 0).trans rfl,(blk_cell HI3.out.bF 0).trans rfl,(blk_cell HI3.out.bH 0).trans rfl⟩ (fun hHeld3=>?_)
    clear hK K hb HI2 HB2
    refine norm_ (a':=?_) ?_ ?_
    rotate_left
    ·show Act.put _ (some 30) _=_
     simp only [Act.put,List.setIfInBounds_toArray,List.set_cons_zero,List.set_cons_succ,i64_w,i32_w]
     rfl
    refine zqp 14 31 (zqb 15 32767) HT_ ?_
    refine done_ (done_of HT_.out zqk) ?_
    go_wp2
    go_ret
    exact⟨rfl,zq200⟩
  ·have hlt':decide (i<U.length)=false:=decide_eq_false hlt
   obtain rfl:i=U.length:=by have:=HK2.out;omega
   have hrt:r=true:=by
    rw [HR.out,allN_iff]
    intro c hc
    exact HS.out c hc
   subst hrt
   clear hlt
   go_wp2_with fail
   go_ret
   exact⟨rfl,by repeat(first|exact HB.out|apply pw_below_drewN|apply below_drew1)⟩
def sameO (U : List (List Int)) (N : List Int) : Option Fm → Option Fm → Bool
 | some f, some h => logicB U N && sameB U N f h
 | _, _ => false
theorem same_start (W : World) {g : Nat} {U : List (List Int)} {N : List Int} {v : Adr} {pf ph : Nat} {f h : Fm} (hV : View W g U N v) (hf : FAt W pf f) (hh : FAt W ph h) :
 SameI (((W.alloc (.cells #[.pointer (some ⟨g,0,none⟩)] 67)).alloc (.cells #[.pointer (some ⟨pf,0,none⟩)] 94)).alloc (.cells #[.pointer (some ⟨ph,0,none⟩)] 94)) g U N v W.heap.size (W.heap.size+1) (W.heap.size+1+1) pf ph f h:=by
 have h2:=blk2 W (.cells #[.pointer (some ⟨g,0,none⟩)] 67) (.cells #[.pointer (some ⟨pf,0,none⟩)] 94)
 have h3:=(MapKept.heap_alloc ((W.alloc (.cells #[.pointer (some ⟨g,0,none⟩)] 67)).alloc (.cells #[.pointer (some ⟨pf,0,none⟩)] 94)) (.cells #[.pointer (some ⟨ph,0,none⟩)] 94)).1
 rw [size_al,size_al] at h3
 have hb:Below W.heap.size W (((W.alloc (.cells #[.pointer (some ⟨g,0,none⟩)] 67)).alloc (.cells #[.pointer (some ⟨pf,0,none⟩)] 94)).alloc (.cells #[.pointer (some ⟨ph,0,none⟩)] 94)):=below_alloc (below_alloc (below_alloc (Below.refl _ _) _) _) _
 exact { view:=hV.below hb,bG:=blk_alloc h2.2 _,bF:=blk_alloc h2.1 _,bH:=h3,tf:=FAt.below hb _ _ hf,th:=FAt.below hb _ _ hh }
def impl_SameOk.f (l0_0 : List (List Int)) (l0_1 : List Int) (a1 : ByteArray) (a2 : ByteArray) : Option (Bool) := some (sameO l0_0 l0_1 (fmOf a1) (fmOf a2))
set_option maxHeartbeats 4000000 in
set_option maxRecDepth 100000 in
theorem impl_SameOk.calls (A0_0 : Option Addr) (c0_0 : Nat) (l0_0 : List (List Int)) (A0_1 : Option Addr) (c0_1 : Nat) (l0_1 : List Int) (a1 : ByteArray) (a2 : ByteArray) (r : Bool) (w : World) (hr0_0 : Kd.C (Kd.slice 3 (Kd.int .i64)) w A0_0 l0_0.length l0_0) (hc0_0 : l0_0.length ≤ c0_0) (hr0_1 : Kd.C (Kd.int .i64) w A0_1 l0_1.length l0_1) (hc0_1 : l0_1.length ≤ c0_1) (h : impl_SameOk.f l0_0 l0_1 a1 a2 = some r) :
 Calls Try.prog 53 #[.agg #[.slice A0_0 l0_0.length c0_0,.slice A0_1 l0_1.length c0_1],.string a1,.string a2] w fun e w'=>e= .returned (.bool r)∧Below w.heap.size w w':=by
 obtain⟨k,hF⟩:=told_facts l0_0
 have hu30:=Try.underlying26
 have hu70:=Try.underlying74
 have HF:=zqm hF
 have HR0:=zqm hr0_0
 have HC0:=zqm hc0_0
 have HR1:=zqm hr0_1
 have HC1:=zqm hc0_1
 simp only [impl_SameOk.f,Option.some.injEq] at h
 clear hr0_0 hc0_0 hr0_1 hc0_1 hF
 cases hL:logicB l0_0 l0_1 with
 |false=>
  cases h1:fmOf a1 with
  |none=>
   cases h2:fmOf a2 with
   |none=>
    have HLB:=zqm hL
    have HF1:=zqm h1
    have HF2:=zqm h2
    rw [h1,h2] at h
    have hr_:false=r:=by rw [← h];simp [sameO,hL]
    subst hr_
    clear h hL h1 h2
    go_enter Try.func53,Try.ntmps53
    go_wp2_with (first|((with_reducible refine gate_dst (N:=3) rfl ?_);refine box_event ?hg (N:=3) ?hd (cs:= #[.slice A0_0 l0_0.length c0_0,.slice A0_1 l0_1.length c0_1]) (t:=26) ?hr ?_;(case hd=>rfl);(case hg=>rfl);(case hr=> exact zq17);intro gb hg_ w1 hbox hb;have HB:=zqm hb;have hx0:w1.cell? ⟨gb,0,none⟩=some (.slice A0_0 l0_0.length c0_0):=(blk_cell hbox 0).trans rfl;have hx1:w1.cell? ⟨gb,1,none⟩=some (.slice A0_1 l0_1.length c0_1):=(blk_cell hbox 1).trans rfl;have HX:=zqm hbox;clear hbox hb hg_)|(go_at_call 70;(with_reducible refine(told_n k _ _ l0_0 _ _ l0_1 _ ?s1 ?s2 ?s3 ?s4 HF.out HLB.out).mono ?_);(case s1=> exact zq61);(case s2=>exact HC0.out);(case s3=> exact zq64);(case s4=>exact HC1.out);rintro e w2 ⟨rfl,hb⟩;have HB2:=zqm (below_step HB.out hb);clear hb hx0 hx1 HX HB)|(go_at_call 103;(with_reducible refine(formulaOf_calls a1 _).mono ?_);rintro e w3 ⟨hb,hm⟩;rw [HF1.out] at hm;obtain rfl:=hm;have HB3:=zqm (below_step HB2.out hb);clear hb)|(go_at_call 103;(with_reducible refine(formulaOf_calls a2 _).mono ?_);rintro e w4 ⟨hb,hm⟩;rw [HF2.out] at hm;obtain rfl:=hm;have HB4:=zqm (below_step HB3.out hb);clear hb))
    go_ret
    exact⟨rfl,zq73⟩
   |some f2=>
    have HLB:=zqm hL
    have HF1:=zqm h1
    have HF2:=zqm h2
    rw [h1,h2] at h
    have hr_:false=r:=by rw [← h];simp [sameO,hL]
    subst hr_
    clear h hL h1 h2
    go_enter Try.func53,Try.ntmps53
    go_wp2_with (first|((with_reducible refine gate_dst (N:=3) rfl ?_);refine box_event ?hg (N:=3) ?hd (cs:= #[.slice A0_0 l0_0.length c0_0,.slice A0_1 l0_1.length c0_1]) (t:=26) ?hr ?_;(case hd=>rfl);(case hg=>rfl);(case hr=> exact zq17);intro gb hg_ w1 hbox hb;have HB:=zqm hb;have hx0:w1.cell? ⟨gb,0,none⟩=some (.slice A0_0 l0_0.length c0_0):=(blk_cell hbox 0).trans rfl;have hx1:w1.cell? ⟨gb,1,none⟩=some (.slice A0_1 l0_1.length c0_1):=(blk_cell hbox 1).trans rfl;have HX:=zqm hbox;clear hbox hb hg_)|(go_at_call 70;(with_reducible refine(told_n k _ _ l0_0 _ _ l0_1 _ ?s1 ?s2 ?s3 ?s4 HF.out HLB.out).mono ?_);(case s1=> exact zq61);(case s2=>exact HC0.out);(case s3=> exact zq64);(case s4=>exact HC1.out);rintro e w2 ⟨rfl,hb⟩;have HB2:=zqm (below_step HB.out hb);clear hb hx0 hx1 HX HB)|(go_at_call 103;(with_reducible refine(formulaOf_calls a1 _).mono ?_);rintro e w3 ⟨hb,hm⟩;rw [HF1.out] at hm;obtain rfl:=hm;have HB3:=zqm (below_step HB2.out hb);clear hb)|(go_at_call 103;(with_reducible refine(formulaOf_calls a2 _).mono ?_);rintro e w4 ⟨hb,hm⟩;rw [HF2.out] at hm;obtain⟨ph,rfl,hf⟩:=hm;have HFph:=zqm hf;have HB4:=zqm (below_step HB3.out hb);clear hb hf))
    go_ret
    exact⟨rfl,zq73⟩
  |some f1=>
   cases h2:fmOf a2 with
   |none=>
    have HLB:=zqm hL
    have HF1:=zqm h1
    have HF2:=zqm h2
    rw [h1,h2] at h
    have hr_:false=r:=by rw [← h];simp [sameO,hL]
    subst hr_
    clear h hL h1 h2
    go_enter Try.func53,Try.ntmps53
    go_wp2_with (first|((with_reducible refine gate_dst (N:=3) rfl ?_);refine box_event ?hg (N:=3) ?hd (cs:= #[.slice A0_0 l0_0.length c0_0,.slice A0_1 l0_1.length c0_1]) (t:=26) ?hr ?_;(case hd=>rfl);(case hg=>rfl);(case hr=> exact zq17);intro gb hg_ w1 hbox hb;have HB:=zqm hb;have hx0:w1.cell? ⟨gb,0,none⟩=some (.slice A0_0 l0_0.length c0_0):=(blk_cell hbox 0).trans rfl;have hx1:w1.cell? ⟨gb,1,none⟩=some (.slice A0_1 l0_1.length c0_1):=(blk_cell hbox 1).trans rfl;have HX:=zqm hbox;clear hbox hb hg_)|(go_at_call 70;(with_reducible refine(told_n k _ _ l0_0 _ _ l0_1 _ ?s1 ?s2 ?s3 ?s4 HF.out HLB.out).mono ?_);(case s1=> exact zq61);(case s2=>exact HC0.out);(case s3=> exact zq64);(case s4=>exact HC1.out);rintro e w2 ⟨rfl,hb⟩;have HB2:=zqm (below_step HB.out hb);clear hb hx0 hx1 HX HB)|(go_at_call 103;(with_reducible refine(formulaOf_calls a1 _).mono ?_);rintro e w3 ⟨hb,hm⟩;rw [HF1.out] at hm;obtain⟨pf,rfl,hf⟩:=hm;have HFpf:=zqm hf;have HB3:=zqm (below_step HB2.out hb);clear hb hf)|(go_at_call 103;(with_reducible refine(formulaOf_calls a2 _).mono ?_);rintro e w4 ⟨hb,hm⟩;rw [HF2.out] at hm;obtain rfl:=hm;have HB4:=zqm (below_step HB3.out hb);have HFpf:=zqm (FAt.below hb _ _ HFpf.out);clear hb))
    go_ret
    exact⟨rfl,zq73⟩
   |some f2=>
    have HLB:=zqm hL
    have HF1:=zqm h1
    have HF2:=zqm h2
    rw [h1,h2] at h
    have hr_:false=r:=by rw [← h];simp [sameO,hL]
    subst hr_
    clear h hL h1 h2
    go_enter Try.func53,Try.ntmps53
    go_wp2_with (first|((with_reducible refine gate_dst (N:=3) rfl ?_);refine box_event ?hg (N:=3) ?hd (cs:= #[.slice A0_0 l0_0.length c0_0,.slice A0_1 l0_1.length c0_1]) (t:=26) ?hr ?_;(case hd=>rfl);(case hg=>rfl);(case hr=> exact zq17);intro gb hg_ w1 hbox hb;have HB:=zqm hb;have hx0:w1.cell? ⟨gb,0,none⟩=some (.slice A0_0 l0_0.length c0_0):=(blk_cell hbox 0).trans rfl;have hx1:w1.cell? ⟨gb,1,none⟩=some (.slice A0_1 l0_1.length c0_1):=(blk_cell hbox 1).trans rfl;have HX:=zqm hbox;clear hbox hb hg_)|(go_at_call 70;(with_reducible refine(told_n k _ _ l0_0 _ _ l0_1 _ ?s1 ?s2 ?s3 ?s4 HF.out HLB.out).mono ?_);(case s1=> exact zq61);(case s2=>exact HC0.out);(case s3=> exact zq64);(case s4=>exact HC1.out);rintro e w2 ⟨rfl,hb⟩;have HB2:=zqm (below_step HB.out hb);clear hb hx0 hx1 HX HB)|(go_at_call 103;(with_reducible refine(formulaOf_calls a1 _).mono ?_);rintro e w3 ⟨hb,hm⟩;rw [HF1.out] at hm;obtain⟨pf,rfl,hf⟩:=hm;have HFpf:=zqm hf;have HB3:=zqm (below_step HB2.out hb);clear hb hf)|(go_at_call 103;(with_reducible refine(formulaOf_calls a2 _).mono ?_);rintro e w4 ⟨hb,hm⟩;rw [HF2.out] at hm;obtain⟨ph,rfl,hf⟩:=hm;have HFph:=zqm hf;have HB4:=zqm (below_step HB3.out hb);have HFpf:=zqm (FAt.below hb _ _ HFpf.out);clear hb hf))
    go_ret
    exact⟨rfl,zq73⟩
 |true=>
  cases h1:fmOf a1 with
  |none=>
   cases h2:fmOf a2 with
   |none=>
    have HLB:=zqm hL
    have HF1:=zqm h1
    have HF2:=zqm h2
    rw [h1,h2] at h
    have hr_:false=r:=by rw [← h];simp [sameO,hL]
    subst hr_
    clear h hL h1 h2
    go_enter Try.func53,Try.ntmps53
    go_wp2_with (first|((with_reducible refine gate_dst (N:=3) rfl ?_);refine box_event ?hg (N:=3) ?hd (cs:= #[.slice A0_0 l0_0.length c0_0,.slice A0_1 l0_1.length c0_1]) (t:=26) ?hr ?_;(case hd=>rfl);(case hg=>rfl);(case hr=> exact zq17);intro gb hg_ w1 hbox hb;have HB:=zqm hb;have hx0:w1.cell? ⟨gb,0,none⟩=some (.slice A0_0 l0_0.length c0_0):=(blk_cell hbox 0).trans rfl;have hx1:w1.cell? ⟨gb,1,none⟩=some (.slice A0_1 l0_1.length c0_1):=(blk_cell hbox 1).trans rfl;have HX:=zqm hbox;clear hbox hb hg_)|(go_at_call 70;(with_reducible refine(told_y k _ _ l0_0 _ _ l0_1 _ ?s1 ?s2 ?s3 ?s4 HF.out HLB.out).mono ?_);(case s1=> exact zq61);(case s2=>exact HC0.out);(case s3=> exact zq64);(case s4=>exact HC1.out);rintro e w2 ⟨g,v,rfl,hv,hge,hb⟩;have HB2:=zqm (below_step HB.out hb);have HV:=zqm hv;clear hv hge hb hx0 hx1 HX HB)|(go_at_call 103;(with_reducible refine(formulaOf_calls a1 _).mono ?_);rintro e w3 ⟨hb,hm⟩;rw [HF1.out] at hm;obtain rfl:=hm;have HB3:=zqm (below_step HB2.out hb);have HV3:=zqm (View.below HV.out hb);clear hb)|(go_at_call 103;(with_reducible refine(formulaOf_calls a2 _).mono ?_);rintro e w4 ⟨hb,hm⟩;rw [HF2.out] at hm;obtain rfl:=hm;have HB4:=zqm (below_step HB3.out hb);have HV4:=zqm (View.below HV3.out hb);clear hb))
    go_ret
    exact⟨rfl,zq73⟩
   |some f2=>
    have HLB:=zqm hL
    have HF1:=zqm h1
    have HF2:=zqm h2
    rw [h1,h2] at h
    have hr_:false=r:=by rw [← h];simp [sameO,hL]
    subst hr_
    clear h hL h1 h2
    go_enter Try.func53,Try.ntmps53
    go_wp2_with (first|((with_reducible refine gate_dst (N:=3) rfl ?_);refine box_event ?hg (N:=3) ?hd (cs:= #[.slice A0_0 l0_0.length c0_0,.slice A0_1 l0_1.length c0_1]) (t:=26) ?hr ?_;(case hd=>rfl);(case hg=>rfl);(case hr=> exact zq17);intro gb hg_ w1 hbox hb;have HB:=zqm hb;have hx0:w1.cell? ⟨gb,0,none⟩=some (.slice A0_0 l0_0.length c0_0):=(blk_cell hbox 0).trans rfl;have hx1:w1.cell? ⟨gb,1,none⟩=some (.slice A0_1 l0_1.length c0_1):=(blk_cell hbox 1).trans rfl;have HX:=zqm hbox;clear hbox hb hg_)|(go_at_call 70;(with_reducible refine(told_y k _ _ l0_0 _ _ l0_1 _ ?s1 ?s2 ?s3 ?s4 HF.out HLB.out).mono ?_);(case s1=> exact zq61);(case s2=>exact HC0.out);(case s3=> exact zq64);(case s4=>exact HC1.out);rintro e w2 ⟨g,v,rfl,hv,hge,hb⟩;have HB2:=zqm (below_step HB.out hb);have HV:=zqm hv;clear hv hge hb hx0 hx1 HX HB)|(go_at_call 103;(with_reducible refine(formulaOf_calls a1 _).mono ?_);rintro e w3 ⟨hb,hm⟩;rw [HF1.out] at hm;obtain rfl:=hm;have HB3:=zqm (below_step HB2.out hb);have HV3:=zqm (View.below HV.out hb);clear hb)|(go_at_call 103;(with_reducible refine(formulaOf_calls a2 _).mono ?_);rintro e w4 ⟨hb,hm⟩;rw [HF2.out] at hm;obtain⟨ph,rfl,hf⟩:=hm;have HFph:=zqm hf;have HB4:=zqm (below_step HB3.out hb);have HV4:=zqm (View.below HV3.out hb);clear hb hf))
    go_ret
    exact⟨rfl,zq73⟩
  |some f1=>
   cases h2:fmOf a2 with
   |none=>
    have HLB:=zqm hL
    have HF1:=zqm h1
    have HF2:=zqm h2
    rw [h1,h2] at h
    have hr_:false=r:=by rw [← h];simp [sameO,hL]
    subst hr_
    clear h hL h1 h2
    go_enter Try.func53,Try.ntmps53
    go_wp2_with (first|((with_reducible refine gate_dst (N:=3) rfl ?_);refine box_event ?hg (N:=3) ?hd (cs:= #[.slice A0_0 l0_0.length c0_0,.slice A0_1 l0_1.length c0_1]) (t:=26) ?hr ?_;(case hd=>rfl);(case hg=>rfl);(case hr=> exact zq17);intro gb hg_ w1 hbox hb;have HB:=zqm hb;have hx0:w1.cell? ⟨gb,0,none⟩=some (.slice A0_0 l0_0.length c0_0):=(blk_cell hbox 0).trans rfl;have hx1:w1.cell? ⟨gb,1,none⟩=some (.slice A0_1 l0_1.length c0_1):=(blk_cell hbox 1).trans rfl;have HX:=zqm hbox;clear hbox hb hg_)|(go_at_call 70;(with_reducible refine(told_y k _ _ l0_0 _ _ l0_1 _ ?s1 ?s2 ?s3 ?s4 HF.out HLB.out).mono ?_);(case s1=> exact zq61);(case s2=>exact HC0.out);(case s3=> exact zq64);(case s4=>exact HC1.out);rintro e w2 ⟨g,v,rfl,hv,hge,hb⟩;have HB2:=zqm (below_step HB.out hb);have HV:=zqm hv;clear hv hge hb hx0 hx1 HX HB)|(go_at_call 103;(with_reducible refine(formulaOf_calls a1 _).mono ?_);rintro e w3 ⟨hb,hm⟩;rw [HF1.out] at hm;obtain⟨pf,rfl,hf⟩:=hm;have HFpf:=zqm hf;have HB3:=zqm (below_step HB2.out hb);have HV3:=zqm (View.below HV.out hb);clear hb hf)|(go_at_call 103;(with_reducible refine(formulaOf_calls a2 _).mono ?_);rintro e w4 ⟨hb,hm⟩;rw [HF2.out] at hm;obtain rfl:=hm;have HB4:=zqm (below_step HB3.out hb);have HV4:=zqm (View.below HV3.out hb);have HFpf:=zqm (FAt.below hb _ _ HFpf.out);clear hb))
    go_ret
    exact⟨rfl,zq73⟩
   |some f2=>
    have HLB:=zqm hL
    have HLg:=zqm (logicB_iff.1 hL)
    have HSM:=zqm (logicB_iff.1 hL).small
    have OF:=zqm (fmOf_ok h1)
    have OH:=zqm (fmOf_ok h2)
    have HF1:=zqm h1
    have HF2:=zqm h2
    rw [h1,h2] at h
    have hr_:sameB l0_0 l0_1 f1 f2=r:=by rw [← h];simp [sameO,hL]
    subst hr_
    clear h hL h1 h2
    unfold sameB
    go_enter Try.func53,Try.ntmps53
    go_wp2_with (first|((with_reducible refine gate_dst (N:=3) rfl ?_);refine box_event ?hg (N:=3) ?hd (cs:= #[.slice A0_0 l0_0.length c0_0,.slice A0_1 l0_1.length c0_1]) (t:=26) ?hr ?_;(case hd=>rfl);(case hg=>rfl);(case hr=> exact zq17);intro gb hg_ w1 hbox hb;have HB:=zqm hb;have hx0:w1.cell? ⟨gb,0,none⟩=some (.slice A0_0 l0_0.length c0_0):=(blk_cell hbox 0).trans rfl;have hx1:w1.cell? ⟨gb,1,none⟩=some (.slice A0_1 l0_1.length c0_1):=(blk_cell hbox 1).trans rfl;have HX:=zqm hbox;clear hbox hb hg_)|(go_at_call 70;(with_reducible refine(told_y k _ _ l0_0 _ _ l0_1 _ ?s1 ?s2 ?s3 ?s4 HF.out HLB.out).mono ?_);(case s1=> exact zq61);(case s2=>exact HC0.out);(case s3=> exact zq64);(case s4=>exact HC1.out);rintro e w2 ⟨g,v,rfl,hv,hge,hb⟩;have HB2:=zqm (below_step HB.out hb);have HV:=zqm hv;clear hv hge hb hx0 hx1 HX HB)|(go_at_call 103;(with_reducible refine(formulaOf_calls a1 _).mono ?_);rintro e w3 ⟨hb,hm⟩;rw [HF1.out] at hm;obtain⟨pf,rfl,hf⟩:=hm;have HFpf:=zqm hf;have HB3:=zqm (below_step HB2.out hb);have HV3:=zqm (View.below HV.out hb);clear hb hf)|(go_at_call 103;(with_reducible refine(formulaOf_calls a2 _).mono ?_);rintro e w4 ⟨hb,hm⟩;rw [HF2.out] at hm;obtain⟨ph,rfl,hf⟩:=hm;have HFph:=zqm hf;have HB4:=zqm (below_step HB3.out hb);have HV4:=zqm (View.below HV3.out hb);have HFpf:=zqm (FAt.below hb _ _ HFpf.out);clear hb hf)|(go_at_call 71;have HS4:=zqm (same_start w4 HV4.out HFpf.out HFph.out);(with_reducible refine(every_pure g l0_0 l0_1 v _ HSM.out ?sV 120 _ #[.pointer (some ⟨w4.heap.size,0,none⟩),.pointer (some ⟨w4.heap.size+1,0,none⟩),.pointer (some ⟨w4.heap.size+1+1,0,none⟩)] Try.func120 zqk rfl (fun a b=>allN l0_0.length fun c=>sameT l0_0 l0_1 f1 f2 a b c) ?sT).mono ?_);(case sV=>exact HS4.out.view);(case sT=>exact fun a b ha hb W hW=>same_c1 g l0_0 l0_1 v W HLg.out _ _ _ pf ph f1 f2 OF.out OH.out a b ⟨by omega,by omega⟩ ⟨by omega,by omega⟩ (HS4.out.below hW));rintro e w5 ⟨rfl,hb⟩;have HB5:=zqm (below_step (below_alloc (below_alloc (below_alloc HB4.out _) _) _) hb);clear hb))
    go_ret
    exact⟨rfl,by repeat(first|exact HB5.out|apply pw_below_drewN|apply below_drew1|apply below_alloc|apply below_set)⟩
def impl_AlwaysOk.f (l0_0 : List (List Int)) (l0_1 : List Int) (a1 : ByteArray) : Option (Bool) := impl_SameOk.f l0_0 l0_1 a1 ⟨#[49]⟩
set_option maxHeartbeats 1000000 in
theorem impl_AlwaysOk.calls (A0_0 : Option Addr) (c0_0 : Nat) (l0_0 : List (List Int)) (A0_1 : Option Addr) (c0_1 : Nat) (l0_1 : List Int) (a1 : ByteArray) (r : Bool) (w : World) (hr0_0 : Kd.C (Kd.slice 3 (Kd.int .i64)) w A0_0 l0_0.length l0_0) (hc0_0 : l0_0.length ≤ c0_0) (hr0_1 : Kd.C (Kd.int .i64) w A0_1 l0_1.length l0_1) (hc0_1 : l0_1.length ≤ c0_1) (h : impl_AlwaysOk.f l0_0 l0_1 a1 = some r) :
 Calls Try.prog 56 #[.agg #[.slice A0_0 l0_0.length c0_0,.slice A0_1 l0_1.length c0_1],.string a1] w fun e w'=>e= .returned (.bool r)∧Below w.heap.size w w':=by
 have hu30:=Try.underlying26
 have HR0:=zqm hr0_0
 have HC0:=zqm hc0_0
 have HR1:=zqm hr0_1
 have HC1:=zqm hc0_1
 have HH:=zqm (show impl_SameOk.f l0_0 l0_1 a1 ⟨#[49]⟩=some r from h)
 clear hr0_0 hc0_0 hr0_1 hc0_1 h
 go_enter Try.func56,Try.ntmps56
 go_wp2_with (first|((with_reducible refine gate_dst (N:=2) rfl ?_);refine box_event ?hg (N:=2) ?hd (cs:= #[.slice A0_0 l0_0.length c0_0,.slice A0_1 l0_1.length c0_1]) (t:=26) ?hr ?_;(case hd=>rfl);(case hg=>rfl);(case hr=>first|(go_simp;done)|(go_simp;rfl));intro gb hg_ w1 hbox hb;have HB:=zqm hb;have hx0:w1.cell? ⟨gb,0,none⟩=some (.slice A0_0 l0_0.length c0_0):=(blk_cell hbox 0).trans rfl;have hx1:w1.cell? ⟨gb,1,none⟩=some (.slice A0_1 l0_1.length c0_1):=(blk_cell hbox 1).trans rfl;have HX:=zqm hbox;clear hbox hb hg_)|(go_at_call 53;(with_reducible refine(impl_SameOk.calls _ _ l0_0 _ _ l0_1 a1 _ r _ ?s1 ?s2 ?s3 ?s4 HH.out).mono ?_);(case s1=>exact Kd.C_below HR0.out HB.out);(case s2=>exact HC0.out);(case s3=>exact Kd.C_below HR1.out HB.out);(case s4=>exact HC1.out);rintro e w2 ⟨rfl,hb⟩;have HB2:=zqm (below_step HB.out hb);clear hb))
 go_ret
 exact⟨rfl,by repeat(first|exact HB2.out|apply pw_below_drewN|apply below_drew1)⟩
theorem enc_b {n s b : Nat} (hb : b < n) : (s * n + b) % n = b := by rw [Nat.add_comm, Nat.add_mul_mod_self_right, Nat.mod_eq_of_lt hb]
theorem enc_s {n s b : Nat} (hb : b < n) : (s * n + b) / n = s := by rw [Nat.add_comm, Nat.add_mul_div_right _ _ (by omega), Nat.div_eq_of_lt hb, Nat.zero_add]
theorem enc_lt {n s b m : Nat} (hs : s < m) (hb : b < n) : s * n + b < m * n := by
 have : (s + 1) * n ≤ m * n := Nat.mul_le_mul_right n hs
 rw [Nat.succ_mul] at this
 omega
theorem tdiv_nat (i n : Nat) : Int.tdiv (i : Int) (n : Int) = ((i / n : Nat) : Int) := by first | exact (Int.ofNat_tdiv i n).symm | rfl
theorem tmod_nat (i n : Nat) : Int.tmod (i : Int) (n : Int) = ((i % n : Nat) : Int) := by first | exact (Int.ofNat_tmod i n).symm | rfl
theorem wrap_cast {x : Nat} (h : x < 1000000) : wrap64 (x : Int) = (x : Int) := wrap_small (by omega) (by omega)
theorem cube_small {n : Nat} (h : n ≤ 12) : n * n * n ≤ 1728 := by
 have h1 : n * n ≤ 144 := Nat.mul_le_mul h h
 exact Nat.mul_le_mul h1 h
theorem wrap_cube {n : Nat} (h : n ≤ 12) : wrap64 (wrap64 ((n : Int) * n) * n) = ((n * n * n : Nat) : Int) := by
 have h1:n*n≤144:=Nat.mul_le_mul h h
 have h2:=cube_small h
 rw [show (n:Int)*n=((n*n:Nat):Int) by simp,wrap_cast (by omega),show ((n*n:Nat):Int)*n=((n*n*n:Nat):Int) by simp,wrap_cast (by omega)]
end Go.Proofs.Ytcbjpdaogicibaa.Print
end
section
namespace Go.Proofs.Ytcbjpdaogicibaa.Print
open Go.RowKit Go.Proofs.YtcbjpdaogicibaaW.PrintWords Go.Proofs.YtcbjpdaogicibaaW.PrintLast Go.Proofs.YtcbjpdaogicibaaW.PrintMore
mutual
def spec_AlwaysOk.j0 : Nat → ByteArray → Bool → List (List Int) → List Int → Option (Bool)
 | 0, _, _, _, _ => none
 | k + 1, x1, x15, x1100000, x1100001 => if x15 = true then (some false) else ((spec_NoOf.f k x1100000 x1100001).bind fun t1102 => (spec_AlwaysOk.l0 k x1 (x1100001.length : Int) t1102 0 x1100000 x1100001))
def spec_AlwaysOk.l0 : Nat → ByteArray → Int → Int → Int → List (List Int) → List Int → Option (Bool)
 | 0, _, _, _, _, _, _ => none
 | k + 1, x1, x5, x6, x7, x1100000, x1100001 => if x7 < (wrap64 ((wrap64 (x5 * x5)) * x5)) then (if x5 = 0 then (none) else ((spec_l10Value.f k x1100000 x1100001 x1 (wrap64 (Int.tdiv (wrap64 (Int.tdiv x7 x5)) x5)) (Int.tmod (wrap64 (Int.tdiv x7 x5)) x5) (Int.tmod x7 x5) x6).bind fun t1103 => (if 0 ≤ x6 then (if x6 < (x1100001.length : Int) then (if t1103 = (rd x1100001 x6) then (spec_AlwaysOk.l0 k x1 x5 x6 (wrap64 (x7 + 1)) x1100000 x1100001) else (some false)) else (none)) else (none)))) else (some true)
end
def spec_AlwaysOk.f (k : Nat) (l0_0 : List (List Int)) (l0_1 : List Int) (a1 : ByteArray) : Option (Bool) := (spec_FormulaOk.f k a1).bind fun t1100 => (if t1100 = true then ((spec_LogicOk.f k l0_0 l0_1).bind fun t1101 => (spec_AlwaysOk.j0 k a1 (!t1101) l0_0 l0_1)) else (spec_AlwaysOk.j0 k a1 true l0_0 l0_1))
def spec_AlwaysOk.T8 : Bool × List (List Nat × List Nat) := (true, [([], []), ([], []), ([], []), ([], []), ([2, 3], [2, 3]), ([], []), ([4, 5], [4, 5]), ([], []), ([], []), ([7, 8], [7, 8]), ([], []), ([9, 10], [9, 10]), ([], []), ([], []), ([12, 13], [12, 13]), ([], []), ([0, 1, 6, 11, 14, 15], [0, 1, 6, 11, 14, 15]), ([], []), ([17], [17]), ([], []), ([18, 19], [18, 19]), ([20], [20]), ([16, 21], [16, 21])])
def spec_AlwaysOk.B8 : List Nat := [0, 0, 0, 0, 12, 0, 60, 0, 0, 384, 0, 1920, 0, 0, 12288, 0, 65535, 0, 131072, 0, 917504, 1966080, 4194303]
theorem spec_AlwaysOk.tab8 : rtab .any (opsOf Try.f57 8) = spec_AlwaysOk.T8 := by kernel_rfl
theorem spec_AlwaysOk.bits8 : waitsOk spec_AlwaysOk.T8.2 spec_AlwaysOk.B8 = true := by kernel_rfl
set_option maxHeartbeats 8000000 in
set_option maxRecDepth 100000 in
theorem spec_AlwaysOk.calls (k : Nat) (A0_0 : Option Addr) (c0_0 : Nat) (l0_0 : List (List Int)) (A0_1 : Option Addr) (c0_1 : Nat) (l0_1 : List Int) (a1 : ByteArray) (r : Bool) (w : World) (hr0_0 : Kd.C (Kd.slice 3 (Kd.int .i64)) w A0_0 l0_0.length l0_0) (hc0_0 : l0_0.length ≤ c0_0) (hr0_1 : Kd.C (Kd.int .i64) w A0_1 l0_1.length l0_1) (hc0_1 : l0_1.length ≤ c0_1) (h : spec_AlwaysOk.f k l0_0 l0_1 a1 = some r) :
  Calls Try.prog 57 #[.agg #[.slice A0_0 l0_0.length c0_0, .slice A0_1 l0_1.length c0_1], .string a1] w fun e w' => e = .returned (.bool r) ∧ Below w.heap.size w w' := by
 have hu26:=Try.underlying26;have b5:=zqm hr0_0;have b3:=zqm hc0_0;clear hr0_0 hc0_0;have b1:=zqm hr0_1;have b4:=zqm hc0_1;clear hr0_1 hc0_1;have HB:=zqm (Below.refl w.heap.size w);have H:((spec_FormulaOk.f k a1).bind fun c2=>(if c2=true then((spec_LogicOk.f k l0_0 l0_1).bind fun b6=>(spec_AlwaysOk.j0 k a1 (!b6) l0_0 l0_1)) else(spec_AlwaysOk.j0 k a1 true l0_0 l0_1)))=some r:=h;clear h;have e0:=zqm H;clear H
 go_enter Try.func57,Try.ntmps57
 go_upto_region 1 with (first|((with_reducible refine gate_dst (N:=2) rfl ?_);refine box_event ?hg (N:=2) ?hd (cs:= #[.slice A0_0 l0_0.length c0_0,.slice A0_1 l0_1.length c0_1]) (t:=26) ?hr ?_;(case hd=>rfl);(case hg=>rfl);(case hr=> exact zq17);intro a3 hg w4 hbox hb;have b2:=zqm (below_step zq0 hb);have a0:=zqm (hbox);have f1:=zqm ((by rw [hg];exact(below_size zq0):w.heap.size≤a3));have a5:=zqm ((by rw [hg];exact(below_size zq0):w.heap.size≤a3));clear HB;have HB:=b2;clear b2 hb hbox hg))
 (try simp only [Act.put,List.setIfInBounds_toArray,List.set_cons_zero,List.set_cons_succ])
 go_cut [15] (fun f2 wc=> ∃(kq:Nat) (b7:Bool),f2= .bool b7∧Aside0 (spec_AlwaysOk.j0 kq a1 b7 l0_0 l0_1=some r)∧Aside0 (kq≤k)∧Aside0 (wc.heap[a3]? =some (.cells #[(.slice A0_0 l0_0.length c0_0),(.slice A0_1 l0_1.length c0_1)] 26 (0,0)))∧Aside0 (Below w.heap.size w wc))
 case first=>
  have H:=e0.out;clear e0;replace H:=Option.bind_eq_some_iff.mp H;obtain⟨c2,e6,H⟩:=H;(try dsimp only at H);have A5:=zqm e6;clear e6
  by_cases c6:c2=true
  ·subst c6;rw [if_pos rfl] at H;replace H:=Option.bind_eq_some_iff.mp H;obtain⟨b6,e7,H⟩:=H;(try dsimp only at H);have A7:=zqm e7;clear e7;have H':=zqm H;clear H
   go_wp2_with (first|((with_reducible refine gate_callee (f:=105) rfl ?_);refine goesL_ (some 9) rfl rfl Try.func105 zqk rfl #[.string a1] rfl zq1 ?_;(with_reducible refine(spec_FormulaOk.calls k a1 true _ A5.out).mono ?_);rintro e w' ⟨rfl,⟨nd,rfl⟩⟩;refine⟨_,rfl,?_⟩;have c7:w4.cell? ⟨a3,0,none⟩=some (.slice A0_0 l0_0.length c0_0):=(blk_cell a0.out 0).trans rfl;have c8:w4.cell? ⟨a3,1,none⟩=some (.slice A0_1 l0_1.length c0_1):=(blk_cell a0.out 1).trans rfl;have c9:=blk_frozen a0.out 0;have d0:=blk_frozen a0.out 1)|(go_at_call 17;(with_reducible refine(spec_LogicOk.calls k _ _ l0_0 _ _ l0_1 b6 _ ?side1 ?side2 ?side3 ?side4 A7.out).mono ?_);(case side1=>repeat(first|exact(Kd.C_below b5.out zq14)|(with_reducible refine Kd.C_alloc ?_ _)|(with_reducible refine Kd.C_drewN ?_ _)|(with_reducible refine Kd.C_drew ?_)));(case side2=>exact b3.out);(case side3=> exact zq83);(case side4=>exact b4.out);rintro e w9 ⟨rfl,hb⟩;replace a0:=zqm (blk_below (g:=a3) (o:= .cells #[.slice A0_0 l0_0.length c0_0,.slice A0_1 l0_1.length c0_1] 26 (0,0)) (zqe a0.out) hb);replace HB:=zqm (below_step zq14 hb);clear hb))
   go_meet
   case rel=>exact⟨_,(!b6),zq7,H',⟨zq62⟩,⟨zqe a0.out⟩,⟨zq14⟩⟩
  ·replace c6:=Bool.eq_false_iff.mpr c6;subst c6;rw [if_neg (show¬(false=true) by decide)] at H;have H':=zqm H;clear H
   go_wp2_with (first|((with_reducible refine gate_callee (f:=105) rfl ?_);refine goesL_ (some 9) rfl rfl Try.func105 zqk rfl #[.string a1] rfl zq1 ?_;(with_reducible refine(spec_FormulaOk.calls k a1 false _ A5.out).mono ?_);rintro e w' ⟨rfl,⟨nd,rfl⟩⟩;refine⟨_,rfl,?_⟩))
   go_meet
   case rel=>exact⟨_,(true),zq7,H',⟨zq62⟩,⟨zqe a0.out⟩,⟨zq14⟩⟩
 case rest=>
  clear e0;(try clear c1);(try clear p2);(try clear c5);(try clear c6);(try clear c7);(try clear c8);(try clear c9);(try clear d0);obtain⟨kq,b7,rfl,HA,e8,a0,HB⟩:=hcut
  cases kq with
  |zero=>exact absurd HA.out (by simp [spec_AlwaysOk.j0])
  |succ e1=>
   have H:=HA.out;clear HA;simp only [spec_AlwaysOk.j0] at H
   by_cases c3:b7=true
   ·subst c3;rw [if_pos rfl] at H;obtain rfl:=Option.some.inj H
    go_wp2
    go_ret
    exact⟨zq13,zq14⟩
   ·replace c3:=Bool.eq_false_iff.mpr c3;subst c3;rw [if_neg (show¬(false=true) by decide)] at H;replace H:=Option.bind_eq_some_iff.mp H;obtain⟨a2,d8,H⟩:=H;(try dsimp only at H);have f0:=zqm d8;clear d8;have H':=zqm H;clear H;have d4:wc.cell? ⟨a3,0,none⟩=some (.slice A0_0 l0_0.length c0_0):=(blk_cell a0.out 0).trans rfl;have d5:wc.cell? ⟨a3,1,none⟩=some (.slice A0_1 l0_1.length c0_1):=(blk_cell a0.out 1).trans rfl;have d6:=blk_frozen a0.out 0;have d7:=blk_frozen a0.out 1
    go_wp2_with (first|((with_reducible refine gate_callee (f:=108) rfl ?_);refine goesL_ (some 20) rfl rfl Try.func108 zqk rfl #[.agg #[.slice A0_0 l0_0.length c0_0,.slice A0_1 l0_1.length c0_1]] rfl zq1 ?_;(with_reducible refine(spec_NoOf.calls e1 _ _ l0_0 _ _ l0_1 a2 _ ?side1 ?side2 ?side3 ?side4 f0.out).mono ?_);(case side1=> exact zq101);(case side2=>exact b3.out);(case side3=> exact zq44);(case side4=>exact b4.out);rintro e f8 ⟨rfl,hb⟩;refine⟨_,rfl,?_⟩;replace a0:=zqm (blk_below (g:=a3) (o:= .cells #[.slice A0_0 l0_0.length c0_0,.slice A0_1 l0_1.length c0_1] 26 (0,0)) (zqe a0.out) hb);replace HB:=zqm (below_step zq14 hb);clear hb))
    go_loopg [7] e1 (fun kq v7 w'=> ∃(a6:Int),v7= .int .i64 a6∧Aside0 (spec_AlwaysOk.l0 kq a1 (l0_1.length:Int) a2 a6 l0_0 l0_1=some r)∧Aside0 (kq≤e1)∧Aside0 (w'.heap[a3]? =some (.cells #[(.slice A0_0 l0_0.length c0_0),(.slice A0_1 l0_1.length c0_1)] 26 (0,0)))∧Aside0 (Below w.heap.size w w'))
    case atStart=>exact⟨(0),zq7,H',⟨Nat.le_refl _⟩,⟨zqe a0.out⟩,⟨zq14⟩⟩
    case round=>
     clear H';(try clear c1);(try clear p2);(try clear c5);(try clear c6);(try clear c3);(try clear d4);(try clear d5);(try clear c7);(try clear c8);(try clear d6);(try clear d7);(try clear c9);(try clear d0);(try clear p2);obtain⟨a6,rfl,HA,e9,a0,HB⟩:=hrel
     cases gk with
     |zero=>exact absurd HA.out (by simp [spec_AlwaysOk.l0])
     |succ k2=>
      have H:=HA.out;clear HA;simp only [spec_AlwaysOk.l0] at H
      by_cases b9:a6<(wrap64 ((wrap64 ((l0_1.length:Int)*(l0_1.length:Int)))*(l0_1.length:Int)))
      ·rw [if_pos b9] at H;have e2:decide (a6<(wrap64 ((wrap64 ((l0_1.length:Int)*(l0_1.length:Int)))*(l0_1.length:Int))))=true:=decide_eq_true b9;clear b9
       by_cases c4:(l0_1.length:Int)=0
       ·rw [if_pos c4] at H;exact absurd H (by simp)
       ·rw [if_neg c4] at H;have f3:((l0_1.length:Int)==0)=false:=beq_eq_false_iff_ne.mpr c4;have f4:((l0_1.length:Int) !=0)=true:=bne_iff_ne.mpr c4;have f5: ¬(l0_1= []):=fun h_=>c4 (by rw [h_];rfl);replace H:=Option.bind_eq_some_iff.mp H;obtain⟨b0,d9,H⟩:=H;(try dsimp only at H);have e5:=zqm d9;clear d9
        by_cases d2:0≤a2
        ·rw [if_pos d2] at H;have f6:decide (0≤a2)=true:=decide_eq_true d2;clear d2
         by_cases d3:a2<(l0_1.length:Int)
         ·rw [if_pos d3] at H;have f7:decide (a2<(l0_1.length:Int))=true:=decide_eq_true d3;clear d3
          by_cases b8:b0=(rd l0_1 a2)
          ·rw [if_pos b8] at H;have e3:(b0==(rd l0_1 a2))=true:=beq_iff_eq.mpr b8;have e4:(b0 !=(rd l0_1 a2))=false:=bne_eq_false_iff_eq.mpr b8;clear b8;have H':=zqm H;clear H;(try go_wp2);replace a0:=zqm (blk_drew a0.out);replace HB:=zqm (below_drew1 HB.out);have a8:0≤(a2:Int):=zqo;have a9:a2<(l0_1.length:Int):=zqo;obtain⟨a7,c0,a4⟩:=Kd.at_int b1.out a2 a8 a9;have hw1104_0:=a4
           cases c0
           replace a4:=(HB.out.cell (World.block_lt_of_cell? w _ a4)).trans a4;replace a8:=eq_true a8;replace a9:=eq_true a9;refine start_ (n:=23) (S:=fun w'=>w'.cell? ⟨a3,0,none⟩=some (.slice A0_0 l0_0.length c0_0)∧w'.cell? ⟨a3,1,none⟩=some (.slice (some a7) l0_1.length c0_1)∧w'.cell? (a7.add (a2).toNat)=some (.int .i64 (rd l0_1 a2))) (ds:= []) (zqb 23 0) zqk rfl rfl ⟨(blk_cell a0.out 0).trans rfl,(blk_cell a0.out 1).trans rfl,((HB.out.cell (World.block_lt_of_cell? w _ hw1104_0)).trans hw1104_0)⟩ (fun hHeld=>?_);refine with_tabW spec_AlwaysOk.tab8 spec_AlwaysOk.bits8 (fun HT_ HW_=>?_);generalize wr.drew=f9 at a0 HB a4 hHeld ⊢;refine zqp 1 31 (zqb 23 2) HT_ ?_;refine zqp 2 32 (zqb 23 6) HT_ ?_;refine zqp 3 33 (zqb 23 14) HT_ ?_;refine zqp 4 34 (zqb 23 30) HT_ ?_;refine zqp 5 35 (zqb 23 62) HT_ ?_;refine zqp 6 36 (zqb 23 126) HT_ ?_;refine zqp 7 37 (zqb 23 254) HT_ ?_;refine zqp 8 38 (zqb 23 510) HT_ ?_;refine zqp 9 39 (zqb 23 1022) HT_ ?_;refine zqp 10 40 (zqb 23 2046) HT_ ?_;refine zqp 11 41 (zqb 23 4094) HT_ ?_;refine zqp 12 42 (zqb 23 8190) HT_ ?_;refine zqp 13 43 (zqb 23 16382) HT_ ?_;refine zqp 14 44 (zqb 23 32766) HT_ ?_;refine zqp 15 45 (zqb 23 65534) HT_ ?_;refine zqp 17 47 (zqb 23 196606) HT_ ?_;refine zqp 19 49 (zqb 23 720894) HT_ ?_;refine zqw 0 30 (zqb 23 720895) HT_ HW_ hHeld ?_;refine zqw 18 48 (zqb 23 983039) HT_ HW_ hHeld ?_;refine zqp 20 50 (zqb 23 2031615) HT_ ?_;refine zqw 21 51 (zqb 23 4128767) HT_ HW_ hHeld ?_;refine one_ (i:=16) (N:=some 46) (zqb 23 4194303) rfl rfl (one_of HT_.out zqk) (by decide) (fun K hK=>?_);refine goes_ Try.func107 zqk rfl #[.agg #[.slice A0_0 l0_0.length c0_0,.slice (some a7) l0_1.length c0_1],.string a1,.int .i64 (wrap64 (Int.tdiv (wrap64 (Int.tdiv a6 (l0_1.length:Int))) (l0_1.length:Int))),.int .i64 (Int.tmod (wrap64 (Int.tdiv a6 (l0_1.length:Int))) (l0_1.length:Int)),.int .i64 (Int.tmod a6 (l0_1.length:Int)),.int .i64 a2] (by rfl) rfl rfl zq1 ?_;(with_reducible refine(spec_l10Value.calls k2 _ _ l0_0 _ _ l0_1 a1 (wrap64 (Int.tdiv (wrap64 (Int.tdiv a6 (l0_1.length:Int))) (l0_1.length:Int))) (Int.tmod (wrap64 (Int.tdiv a6 (l0_1.length:Int))) (l0_1.length:Int)) (Int.tmod a6 (l0_1.length:Int)) a2 b0 _ ?side1 ?side2 ?side3 ?side4 e5.out).mono ?_);(case side1=> exact zq101);(case side2=>exact b3.out);(case side3=> exact zq44);(case side4=>exact b4.out);rintro e g0 ⟨rfl,hb⟩;refine⟨_,rfl,?_⟩;have b2:=zqm (blk_below (g:=a3) (o:= .cells #[.slice A0_0 l0_0.length c0_0,.slice (some a7) l0_1.length c0_1] 26 (0,0)) (zqe a0.out) hb);have d1:=zqm (below_step zq14 hb);clear a0 HB;have a0:=b2;have HB:=d1
           clear b2 d1;(try clear hb);(try clear hb2);(try clear hk);(try clear hi);refine hK.out _ _ ⟨(blk_cell a0.out 0).trans rfl,(blk_cell a0.out 1).trans rfl,((HB.out.cell (World.block_lt_of_cell? w _ hw1104_0)).trans hw1104_0)⟩ (fun hHeld=>?_);clear hK K;refine norm_ (a':=?_) ?_ ?_;rotate_left
           ·show Act.put _ (some 46) _=_;exact zqs
           refine zqp 22 52 (zqb 23 8388607) HT_ ?_;refine done_ (done_of HT_.out zqk) ?_;try go_wp2
           go_roundg k2
           (case measure=> exact zq208);case rel=>exact⟨(wrap64 (a6+1)),zq7,H',⟨zq208⟩,⟨zqe a0.out⟩,⟨zq14⟩⟩
          ·rw [if_neg b8] at H;have e3:(b0==(rd l0_1 a2))=false:=beq_eq_false_iff_ne.mpr b8;have e4:(b0 !=(rd l0_1 a2))=true:=bne_iff_ne.mpr b8;obtain rfl:=Option.some.inj H;(try go_wp2);replace a0:=zqm (blk_drew a0.out);replace HB:=zqm (below_drew1 HB.out);have a8:0≤(a2:Int):=zqo;have a9:a2<(l0_1.length:Int):=zqo;obtain⟨a7,c0,a4⟩:=Kd.at_int b1.out a2 a8 a9;have hw1104_0:=a4
           cases c0
           replace a4:=(HB.out.cell (World.block_lt_of_cell? w _ a4)).trans a4;replace a8:=eq_true a8;replace a9:=eq_true a9;refine start_ (n:=23) (S:=fun w'=>w'.cell? ⟨a3,0,none⟩=some (.slice A0_0 l0_0.length c0_0)∧w'.cell? ⟨a3,1,none⟩=some (.slice (some a7) l0_1.length c0_1)∧w'.cell? (a7.add (a2).toNat)=some (.int .i64 (rd l0_1 a2))) (ds:= []) (zqb 23 0) zqk rfl rfl ⟨(blk_cell a0.out 0).trans rfl,(blk_cell a0.out 1).trans rfl,((HB.out.cell (World.block_lt_of_cell? w _ hw1104_0)).trans hw1104_0)⟩ (fun hHeld=>?_);refine with_tabW spec_AlwaysOk.tab8 spec_AlwaysOk.bits8 (fun HT_ HW_=>?_);generalize wr.drew=g1 at a0 HB a4 hHeld ⊢;refine zqp 1 31 (zqb 23 2) HT_ ?_;refine zqp 2 32 (zqb 23 6) HT_ ?_;refine zqp 3 33 (zqb 23 14) HT_ ?_;refine zqp 4 34 (zqb 23 30) HT_ ?_;refine zqp 5 35 (zqb 23 62) HT_ ?_;refine zqp 6 36 (zqb 23 126) HT_ ?_;refine zqp 7 37 (zqb 23 254) HT_ ?_;refine zqp 8 38 (zqb 23 510) HT_ ?_;refine zqp 9 39 (zqb 23 1022) HT_ ?_;refine zqp 10 40 (zqb 23 2046) HT_ ?_;refine zqp 11 41 (zqb 23 4094) HT_ ?_;refine zqp 12 42 (zqb 23 8190) HT_ ?_;refine zqp 13 43 (zqb 23 16382) HT_ ?_;refine zqp 14 44 (zqb 23 32766) HT_ ?_;refine zqp 15 45 (zqb 23 65534) HT_ ?_;refine zqp 17 47 (zqb 23 196606) HT_ ?_;refine zqp 19 49 (zqb 23 720894) HT_ ?_;refine zqw 0 30 (zqb 23 720895) HT_ HW_ hHeld ?_;refine zqw 18 48 (zqb 23 983039) HT_ HW_ hHeld ?_;refine zqp 20 50 (zqb 23 2031615) HT_ ?_;refine zqw 21 51 (zqb 23 4128767) HT_ HW_ hHeld ?_;refine one_ (i:=16) (N:=some 46) (zqb 23 4194303) rfl rfl (one_of HT_.out zqk) (by decide) (fun K hK=>?_);refine goes_ Try.func107 zqk rfl #[.agg #[.slice A0_0 l0_0.length c0_0,.slice (some a7) l0_1.length c0_1],.string a1,.int .i64 (wrap64 (Int.tdiv (wrap64 (Int.tdiv a6 (l0_1.length:Int))) (l0_1.length:Int))),.int .i64 (Int.tmod (wrap64 (Int.tdiv a6 (l0_1.length:Int))) (l0_1.length:Int)),.int .i64 (Int.tmod a6 (l0_1.length:Int)),.int .i64 a2] (by rfl) rfl rfl zq1 ?_;(with_reducible refine(spec_l10Value.calls k2 _ _ l0_0 _ _ l0_1 a1 (wrap64 (Int.tdiv (wrap64 (Int.tdiv a6 (l0_1.length:Int))) (l0_1.length:Int))) (Int.tmod (wrap64 (Int.tdiv a6 (l0_1.length:Int))) (l0_1.length:Int)) (Int.tmod a6 (l0_1.length:Int)) a2 b0 _ ?side1 ?side2 ?side3 ?side4 e5.out).mono ?_);(case side1=> exact zq101);(case side2=>exact b3.out);(case side3=> exact zq44);(case side4=>exact b4.out);rintro e g2 ⟨rfl,hb⟩;refine⟨_,rfl,?_⟩;have b2:=zqm (blk_below (g:=a3) (o:= .cells #[.slice A0_0 l0_0.length c0_0,.slice (some a7) l0_1.length c0_1] 26 (0,0)) (zqe a0.out) hb);have d1:=zqm (below_step zq14 hb);clear a0 HB;have a0:=b2;have HB:=d1
           clear b2 d1;(try clear hb);(try clear hb2);(try clear hk);(try clear hi);refine hK.out _ _ ⟨(blk_cell a0.out 0).trans rfl,(blk_cell a0.out 1).trans rfl,((HB.out.cell (World.block_lt_of_cell? w _ hw1104_0)).trans hw1104_0)⟩ (fun hHeld=>?_);clear hK K;refine norm_ (a':=?_) ?_ ?_;rotate_left
           ·show Act.put _ (some 46) _=_;exact zqs
           refine zqp 22 52 (zqb 23 8388607) HT_ ?_;refine done_ (done_of HT_.out zqk) ?_;try go_wp2
           go_ret
           exact⟨zq13,zq14⟩
         ·rw [if_neg d3] at H;exact absurd H (by simp)
        ·rw [if_neg d2] at H;exact absurd H (by simp)
      ·rw [if_neg b9] at H;have e2:decide (a6<(wrap64 ((wrap64 ((l0_1.length:Int)*(l0_1.length:Int)))*(l0_1.length:Int))))=false:=decide_eq_false b9;clear b9;obtain rfl:=Option.some.inj H
       go_wp2
       go_ret
       exact⟨zq13,zq14⟩
end Go.Proofs.Ytcbjpdaogicibaa.Print
end
section
namespace Go.Proofs.Ytcbjpdaogicibaa.Print
open Go.RowKit Go.Proofs.YtcbjpdaogicibaaW.PrintWords Go.Proofs.YtcbjpdaogicibaaW.PrintLast Go.Proofs.YtcbjpdaogicibaaW.PrintMore
open Oml
def sameK (U : List (List Int)) (N : List Int) (f h : Fm) (k : Nat) : Bool := sameT U N f h ((k / U.length / U.length : Nat) : Int) ((k / U.length % U.length : Nat) : Int) ((k % U.length : Nat) : Int)
theorem sameB_eq {U : List (List Int)} {N : List Int} (f h : Fm) (hp : 1 ≤ U.length) : sameB U N f h = allN (U.length * U.length * U.length) (sameK U N f h) := by
 rw [Bool.eq_iff_iff]
 unfold sameB sameK
 simp only [allN_iff]
 constructor
 ·intro H k hk
  have hi1:k / U.length<U.length*U.length:=Nat.div_lt_of_lt_mul (by rw [Nat.mul_comm];exact hk)
  exact H _ (Nat.div_lt_of_lt_mul hi1) _ (Nat.mod_lt _ hp) _ (Nat.mod_lt _ hp)
 ·intro H a ha b hb c hc
  have:=H ((a*U.length+b)*U.length+c) (enc_lt (enc_lt ha hb) hc)
  rw [enc_b hc,enc_s hc,enc_b hb,enc_s hb] at this
  exact this
theorem always_loop {U : List (List Int)} {N : List Int} (L : Logic U N) {s : ByteArray} {f : Fm} (hf : fmOf s = some f) : Ev (fun k => spec_AlwaysOk.l0 k s (U.length : Int) (noI U) 0 U N) (sameB U N f (.leaf 49)) := by
 have hs:=L.small
 have hp:=L.pos
 have hc3:=cube_small hs
 have hn:=L.in_no
 have hn1:=hn.1
 have hn2:=hn.2
 rw [← L.len] at hn2
 rw [sameB_eq f _ hp]
 refine Ev.eq (Ev.all (n:=U.length*U.length*U.length) (g:=fun k i=>spec_AlwaysOk.l0 k s (U.length:Int) (noI U) i U N) (sameK U N f (.leaf 49)) (go:=true) (stop:=false) (by omega) (fun _=>?_) fun i hi _ R hR=>?_) (by cases allN (U.length*U.length*U.length) (sameK U N f (.leaf 49)) <;> rfl)
 ·refine Ev.succ ?_
  simp only [spec_AlwaysOk.l0,wrap_cube hs]
  repeat(with_reducible first|refine Ev.ip ?_|refine Ev.iq ?_)
  exact Ev.now _
 ·have hi1:i / U.length<U.length*U.length:=Nat.div_lt_of_lt_mul (by rw [Nat.mul_comm];exact hi)
  have ha:i / U.length / U.length<U.length:=Nat.div_lt_of_lt_mul hi1
  have hb:i / U.length % U.length<U.length:=Nat.mod_lt _ hp
  have hc:i % U.length<U.length:=Nat.mod_lt _ hp
  have w1:wrap64 ((i / U.length:Nat):Int)=((i / U.length:Nat):Int):=wrap_cast (by have:U.length*U.length≤144:=Nat.mul_le_mul hs hs;omega)
  have w2:wrap64 ((i / U.length / U.length:Nat):Int)=((i / U.length / U.length:Nat):Int):=wrap_cast (by omega)
  have hK:sameK U N f (.leaf 49) i=sameT U N f (.leaf 49) ((i / U.length / U.length:Nat):Int) ((i / U.length % U.length:Nat):Int) ((i % U.length:Nat):Int):=rfl
  rw [hK] at hR ⊢
  refine Ev.succ ?_
  simp only [spec_AlwaysOk.l0,wrap_cube hs,tdiv_nat,tmod_nat,w1,w2,rd_in L hn]
  generalize i / U.length / U.length=a at*
  generalize i / U.length % U.length=b at*
  generalize i % U.length=c at*
  have Ia:In U (a:Int):=⟨by omega,by omega⟩
  have Ib:In U (b:Int):=⟨by omega,by omega⟩
  have Ic:In U (c:Int):=⟨by omega,by omega⟩
  have hlt:(i:Int)<((U.length*U.length*U.length:Nat):Int):=by omega
  have hne: ¬(U.length:Int)=0:=by omega
  refine Ev.ite_pos hlt (Ev.ite_neg hne (Ev.bind (value_of_ev L Ia Ib Ic hf) (Ev.ite_pos hn1 (Ev.ite_pos hn2 ?_))))
  unfold sameT at hR ⊢
  have hy:valF U N a b c (.leaf 49)=notI N (noI U):=rfl
  rw [hy] at hR ⊢
  by_cases e:valF U N a b c f=notI N (noI U)
  ·exact Ev.ite_pos e (Ev.eq (hR (by simp [e])) (by simp [e]))
  ·exact Ev.ite_neg e (Ev.eq (Ev.now _) (by simp [e]))
theorem fm_one : fmOf ⟨#[49]⟩ = some (.leaf 49) := by
 have hb:bt ⟨#[49]⟩ 0=49:=by rfl
 have hs:(ByteArray.mk #[49]).size=1:=rfl
 have h1:rdF 1 ⟨#[49]⟩=some (.leaf 49,(ByteArray.mk #[49]).extract 1 (ByteArray.mk #[49]).size):=by
  simp only [rdF]
  rw [hb,if_neg (by rw [hs];omega),if_pos (by unfold isLeaf;omega)]
 unfold fmOf
 rw [if_neg (by rw [hs];omega)]
 rw [show rdF (ByteArray.mk #[49]).size ⟨#[49]⟩=rdF 1 ⟨#[49]⟩ from rfl,h1]
 simp only []
 rw [if_pos (by rw [ext_size,hs])]
theorem spec_AlwaysOk.ev (U : List (List Int)) (N : List Int) (s : ByteArray) : Ev (fun k => spec_AlwaysOk.f k U N s) (sameO U N (fmOf s) (fmOf ⟨#[49]⟩)) := by
 rw [fm_one]
 unfold spec_AlwaysOk.f
 have hT:Ev (fun k=>spec_AlwaysOk.j0 k s true U N) false:=by
  refine Ev.succ ?_
  simp only [spec_AlwaysOk.j0]
  repeat(with_reducible first|refine Ev.ip ?_|refine Ev.iq ?_)
  exact Ev.now _
 refine Ev.bind (spec_FormulaOk.ev s) ?_
 cases hf:fmOf s with
 |none=>exact Ev.eq (Ev.ite_neg (by simp) hT) rfl
 |some f=>
  refine Ev.ite_pos rfl (Ev.bind (spec_LogicOk.ev U N) ?_)
  show Ev _ (logicB U N && sameB U N f (.leaf 49))
  cases hl:logicB U N with
  |false=>exact hT
  |true=>
   have L:=logicB_iff.1 hl
   refine Ev.succ ?_
   simp only [spec_AlwaysOk.j0]
   refine Ev.ite_neg (by simp) (Ev.bind (spec_NoOf.ev U N) ?_)
   rw [hl,if_pos rfl,L.len]
   exact Ev.eq (always_loop L hf) rfl
theorem bne_self' (x : Bool) : ¬ (x != x) = true := by cases x <;> simp
theorem ofInt_nat (a : Nat) (ha : a < 18446744073709551616) : (BitVec.ofInt 64 (a : Int)).toNat = a := by
 rw [BitVec.ofInt_natCast, BitVec.toNat_ofNat]; exact Nat.mod_eq_of_lt (by omega)
theorem band_nat (a b : Nat) (ha : a < 4611686018427387904) (hb : b < 4611686018427387904) : Go.bits .and .i64 (a : Int) (b : Int) = ((a &&& b : Nat) : Int) := by
 have hx:a &&& b<2 ^ 62:=Nat.and_lt_two_pow _ (by omega)
 show IntKind.i64.wrap ((BitVec.ofInt 64 (a:Int) &&& BitVec.ofInt 64 (b:Int)).toNat:Int)=_
 rw [BitVec.toNat_and,ofInt_nat a (by omega),ofInt_nat b (by omega),i64_w]
 unfold wrap64;omega
theorem bor_nat (a b : Nat) (ha : a < 4611686018427387904) (hb : b < 4611686018427387904) : Go.bits .or .i64 (a : Int) (b : Int) = ((a ||| b : Nat) : Int) := by
 have hx:a|||b<2 ^ 62:=Nat.or_lt_two_pow (by omega) (by omega)
 show IntKind.i64.wrap ((BitVec.ofInt 64 (a:Int)|||BitVec.ofInt 64 (b:Int)).toNat:Int)=_
 rw [BitVec.toNat_or,ofInt_nat a (by omega),ofInt_nat b (by omega),i64_w]
 unfold wrap64;omega
theorem two_pow_le {i : Nat} (h : i ≤ 40) : (2 : Nat) ^ i ≤ 1099511627776 := Nat.pow_le_pow_right (by omega) h
theorem cast_pow (i : Nat) : (2 : Int) ^ i = ((2 ^ i : Nat) : Int) := by rw [Int.natCast_pow]; rfl
theorem shl_nat {i : Nat} (h : i ≤ 40) : shl .i64 1 (i : Int) = ((2 ^ i : Nat) : Int) := by
 unfold shl
 have h2:=two_pow_le h
 rw [Int.toNat_natCast,Nat.min_eq_left (by show i≤64;omega),Int.one_mul,cast_pow,i64_w]
 generalize 2 ^ i=x at h2 ⊢
 unfold wrap64;omega
theorem wshl_nat {i : Nat} (h : i ≤ 40) : IntKind.i64.wrap (2 ^ i) = ((2 ^ i : Nat) : Int) := by
 have:=shl_nat h
 unfold shl at this
 rwa [Int.toNat_natCast,Nat.min_eq_left (by show i≤64;omega),Int.one_mul] at this
theorem shr_nat (s : Nat) {i : Nat} (h : i ≤ 64) : shr .i64 (s : Int) (i : Int) = ((s / 2 ^ i : Nat) : Int) := by
 unfold shr
 rw [Int.toNat_natCast,Nat.min_eq_left (by show i≤64;omega),cast_pow]
 rfl
theorem testBit_div (s i : Nat) : s.testBit i = decide (s / 2 ^ i % 2 = 1) := Nat.testBit_eq_decide_div_mod_eq
theorem setB_bit (n : Nat) (p : Nat → Bool) (i : Nat) : (setB n p).testBit i = (decide (i < n) && p i) := by
 induction n with
 |zero=>simp [setB]
 |succ n ih=>
  simp only [setB,Nat.testBit_or,ih]
  by_cases e:i=n
  ·subst e
   cases h:p i <;> simp [h,Nat.testBit_two_pow]
  ·have:(if p n=true then 2 ^ n else 0).testBit i=false:=by
    split
    ·rw [Nat.testBit_two_pow];simp;omega
    ·simp
   rw [this,Bool.or_false]
   congr 1
   rw [Bool.eq_iff_iff];simp;omega
theorem setB_lt (n : Nat) (p : Nat → Bool) : setB n p < 2 ^ n := by
 refine Nat.lt_pow_two_of_testBit _ fun i hi => ?_
 rw [setB_bit]; simp; omega
theorem setB_small {n : Nat} (h : n ≤ 40) (p : Nat → Bool) : setB n p < 1099511627776 := by have := setB_lt n p; have := two_pow_le h; omega
theorem setB_congr {n : Nat} {p q : Nat → Bool} (h : ∀ i, i < n → p i = q i) : setB n p = setB n q := by
 refine Nat.eq_of_testBit_eq fun i=>?_
 rw [setB_bit,setB_bit]
 by_cases hi:i<n
 ·rw [h i hi]
 ·simp [hi]
theorem setB_or (n : Nat) (p q : Nat → Bool) : setB n p ||| setB n q = setB n fun i => p i || q i := by
 refine Nat.eq_of_testBit_eq fun i=>?_
 rw [Nat.testBit_or,setB_bit,setB_bit,setB_bit]
 cases decide (i<n) <;> simp
theorem setB_and (n : Nat) (p q : Nat → Bool) : setB n p &&& setB n q = setB n fun i => p i && q i := by
 refine Nat.eq_of_testBit_eq fun i=>?_
 rw [Nat.testBit_and,setB_bit,setB_bit,setB_bit]
 cases decide (i<n) <;> simp
theorem setB_one {n k : Nat} (h : k < n) : 2 ^ k = setB n fun i => i == k := by
 refine Nat.eq_of_testBit_eq fun i => ?_
 rw [setB_bit, Nat.testBit_two_pow]
 rw [Bool.eq_iff_iff]; simp; omega
theorem setB_all (n : Nat) : 2 ^ n - 1 = setB n fun _ => true := by
 refine Nat.eq_of_testBit_eq fun i => ?_
 rw [setB_bit, Nat.testBit_two_pow_sub_one]; simp
theorem setB_none (n : Nat) : setB n (fun _ => false) = 0 := by
 refine Nat.eq_of_testBit_eq fun i => ?_
 rw [setB_bit]; simp
section
section
variable {U : List (List Int)} {N : List Int} (L : Logic U N)
theorem fin_of_nat {i : Nat} (h : i < U.length) : ∃ x : Fin U.length, i = x.1 := ⟨⟨i, h⟩, rfl⟩
theorem in_fin (x : Fin U.length) : In U ((x.1 : Nat) : Int) := ⟨by omega, by have := x.2; omega⟩
theorem fin_inj {x y : Fin U.length} : (((x.1 : Nat) : Int) = ((y.1 : Nat) : Int)) ↔ x = y := by
 constructor
 ·intro h; exact Fin.ext (by omega)
 ·intro h; rw [h]
theorem fin_beq (x y : Fin U.length) : (((x.1 : Nat) : Int) == ((y.1 : Nat) : Int)) = decide (x = y) := by
 rw [Bool.eq_iff_iff, beq_iff_eq, decide_eq_true_eq]; exact fin_inj
theorem leB_fin (x y : Fin U.length) : leB U x.1 y.1 = true ↔ L.ol.le x y := Iff.rfl
theorem allN_fin {n : Nat} {p : Nat → Bool} : allN n p = true ↔ ∀ x : Fin n, p x.1 = true := by
 rw [allN_iff]
 exact ⟨fun h x => h x.1 x.2, fun h i hi => h ⟨i, hi⟩⟩
end
end
def comR (n : Nat) (R : Nat → Nat → Bool) (s : Nat) : Nat := setB n fun b => allN n fun a => !(s.testBit a) || R a b
def Rel (n : Nat) (R : Nat → Nat → Bool) (s : Nat) : Prop := ∀ a b, a < n → b < n → s.testBit a = true → s.testBit b = true → R a b = true
theorem comR_bit (n : Nat) (R : Nat → Nat → Bool) (s b : Nat) (hb : b < n) : (comR n R s).testBit b = true ↔ ∀ a, a < n → s.testBit a = true → R a b = true := by
 unfold comR
 rw [setB_bit,decide_eq_true hb,Bool.true_and,allN_iff]
 constructor
 ·intro h a ha hs
  have:=h a ha
  rw [hs] at this
  simpa using this
 ·intro h a ha
  cases hs:s.testBit a with
  |false=>rfl
  |true=>rw [h a ha hs];rfl
theorem bit_lt {n s b : Nat} (hs : s < 2 ^ n) (h : s.testBit b = true) : b < n := by
 apply Classical.byContradiction
 intro hn
 have h2:s<2 ^ b:=Nat.lt_of_lt_of_le hs (Nat.pow_le_pow_right (by omega) (by omega))
 rw [Nat.testBit_lt_two_pow h2] at h
 exact absurd h (by simp)
theorem comR_self {n : Nat} {R : Nat → Nat → Bool} {s : Nat} (h : comR n R s = s) : Rel n R s := fun a b ha hb h1 h2 => by
 rw [← h] at h2
 exact (comR_bit n R s b hb).1 h2 a ha h1
theorem block_ext {n : Nat} {R : Nat → Nat → Bool} (hr : ∀ a, a < n → R a a = true) (hsy : ∀ a b, a < n → b < n → R a b = true → R b a = true) :
 ∀d s,s<2 ^ n→2 ^ n≤s+d→Rel n R s→ ∃t,t<2 ^ n∧comR n R t=t∧ ∀a,s.testBit a=true→t.testBit a=true:=by
 intro d
 induction d with
 |zero=>intro s hs h;omega
 |succ d ih=>
  intro s hs hd hR
  by_cases hc:comR n R s=s
  ·exact⟨s,hs,hc,fun _ h=>h⟩
  have hsub: ∀a,s.testBit a=true→(comR n R s).testBit a=true:=fun a ha=>by
   have han:=bit_lt hs ha
   exact(comR_bit n R s a han).2 fun b hb hsb=>hR b a hb han hsb ha
  obtain⟨b,hb1,hb2⟩: ∃b,(comR n R s).testBit b=true∧s.testBit b=false:=by
   apply Classical.byContradiction
   intro hne
   apply hc
   apply Nat.eq_of_testBit_eq
   intro i
   cases h1:s.testBit i with
   |true=>exact hsub i h1
   |false=>
    cases h2:(comR n R s).testBit i with
    |false=>rfl
    |true=>exact absurd ⟨i,h2,h1⟩ hne
  have hbn:b<n:=bit_lt (setB_lt n _) hb1
  have hcom:=(comR_bit n R s b hbn).1 hb1
  have hlt:s<s|||2 ^ b:=by
   have h1:s≤s|||2 ^ b:=Nat.left_le_or
   have h2:s≠s|||2 ^ b:=fun e=>by
    have h3:(s|||2 ^ b).testBit b=true:=by rw [Nat.testBit_or,Nat.testBit_two_pow_self,Bool.or_true]
    rw [← e,hb2] at h3
    exact absurd h3 (by simp)
   omega
  have hlt2:s|||2 ^ b<2 ^ n:=Nat.or_lt_two_pow hs (Nat.pow_lt_pow_right (by omega) hbn)
  obtain⟨t,t1,t2,t3⟩:=ih (s|||2 ^ b) hlt2 (by omega) (fun a c ha hc' h1 h2=>by
   rw [Nat.testBit_or,Nat.testBit_two_pow,Bool.or_eq_true,decide_eq_true_eq] at h1 h2
   rcases h1 with h1|h1
   ·rcases h2 with h2|h2
    ·exact hR a c ha hc' h1 h2
    ·subst h2;exact hcom a ha h1
   ·subst h1
    rcases h2 with h2|h2
    ·exact hsy c b hc' hbn (hcom c hc' h2)
    ·subst h2;exact hr b hbn)
  exact⟨t,t1,t2,fun a ha=>t3 a (by rw [Nat.testBit_or,ha];rfl)⟩
def blkR (n : Nat) (R : Nat → Nat → Bool) : List Nat := (List.range (2 ^ n)).filter fun s => decide (1 ≤ s) && (comR n R s == s)
theorem mem_blkR {n : Nat} {R : Nat → Nat → Bool} {s : Nat} : s ∈ blkR n R ↔ s < 2 ^ n ∧ 1 ≤ s ∧ comR n R s = s := by
 unfold blkR
 rw [List.mem_filter,List.mem_range,Bool.and_eq_true,decide_eq_true_eq,beq_iff_eq]
theorem block_of {n : Nat} {R : Nat → Nat → Bool} (hr : ∀ a, a < n → R a a = true) (hsy : ∀ a b, a < n → b < n → R a b = true → R b a = true) {s : Nat} (hs : s < 2 ^ n) (h1 : 1 ≤ s) (hR : Rel n R s) :
 ∃t,t ∈ blkR n R∧ ∀a,s.testBit a=true→t.testBit a=true:=by
 obtain⟨t,t1,t2,t3⟩:=block_ext hr hsy (2 ^ n) s hs (by omega) hR
 refine⟨t,mem_blkR.2 ⟨t1,?_,t2⟩,t3⟩
 apply Classical.byContradiction
 intro h0
 have ht:t=0:=by omega
 obtain⟨i,hi⟩:=Nat.exists_testBit_of_ne_zero (show s≠0 by omega)
 have:=t3 i hi
 rw [ht,Nat.zero_testBit] at this
 exact absurd this (by simp)
theorem filter_one {m x : Nat} (hx : x < m) {p : Nat → Bool} (hp : ∀ s, s < m → (p s = true ↔ s = x)) : (List.range m).filter p = [x] := by
 have h1:(List.range m).filter p=(List.range m).filter (· ==x):=by
  apply List.filter_congr
  intro s hs
  rw [Bool.eq_iff_iff,hp s (by simpa using hs),beq_iff_eq]
 rw [h1]
 clear h1 hp
 induction m with
 |zero=>omega
 |succ m ih=>
  rw [List.range_succ,List.filter_append]
  by_cases e:x=m
  ·subst e
   have h0:(List.range x).filter (fun s=>s==x)= []:=List.filter_eq_nil_iff.2 fun s hs=>by
    have:s<x:=by simpa using hs
    simp only [beq_iff_eq]
    omega
   rw [h0]
   simp
  ·rw [ih (by omega)]
   have:(m==x)=false:=by rw [beq_eq_false_iff_ne];omega
   simp [this]
theorem blkR_one {n : Nat} {R : Nat → Nat → Bool} (hn : 1 ≤ n) (hr : ∀ a, a < n → R a a = true) (hsy : ∀ a b, a < n → b < n → R a b = true → R b a = true) :
 (blkR n R).length=1↔ ∀a b,a<n→b<n→R a b=true:=by
 constructor
 ·intro h a b ha hb
  have one: ∀x,x<n→ ∃t,t ∈ blkR n R∧t.testBit x=true:=fun x hx=>by
   obtain⟨t,h1,h2⟩:=block_of (s:=2 ^ x) hr hsy (Nat.pow_lt_pow_right (by omega) hx) Nat.one_le_two_pow (fun c d _ _ h1 h2=>by
    rw [Nat.testBit_two_pow,decide_eq_true_eq] at h1 h2
    subst h1;subst h2
    exact hr _ hx)
   exact⟨t,h1,h2 x (Nat.testBit_two_pow_self)⟩
  obtain⟨t,t1,t2⟩:=one a ha
  obtain⟨u,u1,u2⟩:=one b hb
  obtain⟨z,hz⟩:=List.length_eq_one_iff.1 h
  rw [hz,List.mem_singleton] at t1 u1
  subst t1;subst u1
  have:=comR_self (mem_blkR.1 (hz ▸ List.mem_singleton.2 rfl)).2.2
  exact this a b ha hb t2 u2
 ·intro h
  have hfull: ∀s,comR n R s=2 ^ n - 1:=fun s=>by
   rw [setB_all]
   unfold comR
   exact setB_congr fun b hb=>allN_iff.2 fun a ha=>by rw [h a b ha hb];simp
  have h2:2≤2 ^ n:=Nat.le_trans (by decide:2≤2 ^ 1) (Nat.pow_le_pow_right (by omega) hn)
  unfold blkR
  rw [filter_one (x:=2 ^ n - 1) (by omega) fun s hs=>by
   rw [hfull s,Bool.and_eq_true,decide_eq_true_eq,beq_iff_eq]
   omega]
  rfl
end Go.Proofs.Ytcbjpdaogicibaa.Print
end
section
namespace Go.Proofs.Ytcbjpdaogicibaa.Print
open Go.RowKit Go.Proofs.YtcbjpdaogicibaaW.PrintWords Go.Proofs.YtcbjpdaogicibaaW.PrintLast Go.Proofs.YtcbjpdaogicibaaW.PrintMore
mutual
def spec_KeepsOk.l0 : Nat → Int → List (List Int) → List Int → Option (Bool)
 | 0, _, _, _ => none
 | k + 1, x3, x751000, x751001 => if x3 < (x751001.length : Int) then ((spec_LogicOk.f k x751000 x751001).bind fun t751 => (spec_KeepsOk.j1 k x3 t751 x751000 x751001)) else (spec_KeepsOk.j1 k x3 false x751000 x751001)
def spec_KeepsOk.j1 : Nat → Int → Bool → List (List Int) → List Int → Option (Bool)
 | 0, _, _, _, _ => none
 | k + 1, x3, x13, x751000, x751001 => if x13 = true then (spec_KeepsOk.l1 k x3 0 x751000 x751001) else ((spec_LogicOk.f k x751000 x751001).bind fun t752 => (some t752))
def spec_KeepsOk.l1 : Nat → Int → Int → List (List Int) → List Int → Option (Bool)
 | 0, _, _, _, _ => none
 | k + 1, x3, x4, x751000, x751001 => if x4 < (x751001.length : Int) then (if 0 ≤ x3 then (if x3 < (x751000.length : Int) then (if 0 ≤ x4 then (if x4 < ((rd_L2 x751000 x3).length : Int) then (if (rd (rd_L2 x751000 x3) x4) = 1 then (if x3 < (x751001.length : Int) then ((spec_l1Meet.f k x751000 x4 (rd x751001 x3)).bind fun t756 => ((spec_l1Join.f k x751000 x3 t756).bind fun t757 => (if t757 = x4 then (spec_KeepsOk.l1 k x3 (wrap64 (x4 + 1)) x751000 x751001) else (some false)))) else (none)) else (spec_KeepsOk.l1 k x3 (wrap64 (x4 + 1)) x751000 x751001)) else (none)) else (none)) else (none)) else (none)) else (spec_KeepsOk.l0 k (wrap64 (x3 + 1)) x751000 x751001)
end
def spec_KeepsOk.f (k : Nat) (l0_0 : List (List Int)) (l0_1 : List Int) : Option (Bool) := spec_KeepsOk.l0 k 0 l0_0 l0_1
set_option maxHeartbeats 8000000 in
set_option maxRecDepth 100000 in
theorem spec_KeepsOk.calls (k : Nat) (A0_0 : Option Addr) (c0_0 : Nat) (l0_0 : List (List Int)) (A0_1 : Option Addr) (c0_1 : Nat) (l0_1 : List Int) (r : Bool) (w : World) (hr0_0 : Kd.C (Kd.slice 3 (Kd.int .i64)) w A0_0 l0_0.length l0_0) (hc0_0 : l0_0.length ≤ c0_0) (hr0_1 : Kd.C (Kd.int .i64) w A0_1 l0_1.length l0_1) (hc0_1 : l0_1.length ≤ c0_1) (h : spec_KeepsOk.f k l0_0 l0_1 = some r) :
  Calls Try.prog 34 #[.agg #[.slice A0_0 l0_0.length c0_0, .slice A0_1 l0_1.length c0_1]] w fun e w' => e = .returned (.bool r) ∧ Below w.heap.size w w' := by
 have hu26:=Try.underlying26;have a5:=zqm hr0_0;have a6:=zqm hc0_0;clear hr0_0 hc0_0;have b8:=zqm hr0_1;have c0:=zqm hc0_1;clear hr0_1 hc0_1;have HB:=zqm (Below.refl w.heap.size w);have H:(spec_KeepsOk.l0 k 0 l0_0 l0_1)=some r:=h;clear h;have H':=zqm H;clear H
 go_enter Try.func34,Try.ntmps34
 go_wp2_with (first|((with_reducible refine gate_dst (N:=1) rfl ?_);refine box_event ?hg (N:=1) ?hd (cs:= #[.slice A0_0 l0_0.length c0_0,.slice A0_1 l0_1.length c0_1]) (t:=26) ?hr ?_;(case hd=>rfl);(case hg=>rfl);(case hr=> exact zq17);intro a2 hg w2 hbox hb;have c7:=zqm (below_step zq0 hb);have a0:=zqm (hbox);have f4:=zqm ((by rw [hg];exact(below_size zq0):w.heap.size≤a2));have a4:=zqm ((by rw [hg];exact(below_size zq0):w.heap.size≤a2));clear HB;have HB:=c7;clear c7 hb hbox hg))
 repeat(go_quiet (first|((with_reducible refine gate_dst (N:=1) rfl ?_);refine box_event ?hg (N:=1) ?hd (cs:= #[.slice A0_0 l0_0.length c0_0,.slice A0_1 l0_1.length c0_1]) (t:=26) ?hr ?_;(case hd=>rfl);(case hg=>rfl);(case hr=> exact zq17);intro a2 hg w2 hbox hb;have c7:=zqm (below_step zq0 hb);have a0:=zqm (hbox);have f4:=zqm ((by rw [hg];exact(below_size zq0):w.heap.size≤a2));have a4:=zqm ((by rw [hg];exact(below_size zq0):w.heap.size≤a2));clear HB;have HB:=c7;clear c7 hb hbox hg));try go_wp2_with (first|((with_reducible refine gate_dst (N:=1) rfl ?_);refine box_event ?hg (N:=1) ?hd (cs:= #[.slice A0_0 l0_0.length c0_0,.slice A0_1 l0_1.length c0_1]) (t:=26) ?hr ?_;(case hd=>rfl);(case hg=>rfl);(case hr=> exact zq17);intro a2 hg w2 hbox hb;have c7:=zqm (below_step zq0 hb);have a0:=zqm (hbox);have f4:=zqm ((by rw [hg];exact(below_size zq0):w.heap.size≤a2));have a4:=zqm ((by rw [hg];exact(below_size zq0):w.heap.size≤a2));clear HB;have HB:=c7;clear c7 hb hbox hg)))
 go_loopg [3] k (fun kq v3 w'=> ∃(a1:Int),v3= .int .i64 a1∧Aside0 (spec_KeepsOk.l0 kq a1 l0_0 l0_1=some r)∧Aside0 (kq≤k)∧Aside0 (w'.heap[a2]? =some (.cells #[(.slice A0_0 l0_0.length c0_0),(.slice A0_1 l0_1.length c0_1)] 26 (0,0)))∧Aside0 (Below w.heap.size w w'))
 case atStart=>exact⟨(0),zq7,H',⟨Nat.le_refl _⟩,⟨zqe a0.out⟩,⟨zq19⟩⟩
 case round=>
  clear H';(try clear p2);obtain⟨a1,rfl,HA,c6,a0,HB⟩:=hrel
  cases gk with
  |zero=>exact absurd HA.out (by simp [spec_KeepsOk.l0])
  |succ k1=>
   have H:=HA.out;clear HA;simp only [spec_KeepsOk.l0] at H;have g6:=zqm H;clear H
   go_upto_region 2 with (fail)
   repeat(go_quiet (fail);go_upto_region 2 with (fail))
   go_cut [13] (fun j6 wc=> ∃(kq:Nat) (c8:Bool),j6= .bool c8∧Aside0 (spec_KeepsOk.j1 kq a1 c8 l0_0 l0_1=some r)∧Aside0 (kq≤k1)∧Aside0 (wc.heap[a2]? =some (.cells #[(.slice A0_0 l0_0.length c0_0),(.slice A0_1 l0_1.length c0_1)] 26 (0,0)))∧Aside0 (Below w.heap.size w wc))
   case first=>
    have H:=g6.out;clear g6
    by_cases c4:a1<(l0_1.length:Int)
    ·rw [if_pos c4] at H;have c1:decide (a1<(l0_1.length:Int))=true:=decide_eq_true c4;clear c4;(first|rw [c1]|(simp only [i64_w,i32_w];rw [c1])|skip);replace H:=Option.bind_eq_some_iff.mp H;obtain⟨e0,h3,H⟩:=H;(try dsimp only at H);have A5:=zqm h3;clear h3;have H':=zqm H;clear H;have e3:wr.cell? ⟨a2,0,none⟩=some (.slice A0_0 l0_0.length c0_0):=(blk_cell a0.out 0).trans rfl;have e4:wr.cell? ⟨a2,1,none⟩=some (.slice A0_1 l0_1.length c0_1):=(blk_cell a0.out 1).trans rfl;have e7:=blk_frozen a0.out 0;have e8:=blk_frozen a0.out 1
     go_wp2_with (first|(go_at_call 17;(with_reducible refine(spec_LogicOk.calls k1 _ _ l0_0 _ _ l0_1 e0 _ ?side1 ?side2 ?side3 ?side4 A5.out).mono ?_);(case side1=> exact zq34);(case side2=>exact a6.out);(case side3=> exact zq31);(case side4=>exact c0.out);rintro e w7 ⟨rfl,hb⟩;replace a0:=zqm (blk_below (g:=a2) (o:= .cells #[.slice A0_0 l0_0.length c0_0,.slice A0_1 l0_1.length c0_1] 26 (0,0)) (zqe a0.out) hb);replace HB:=zqm (below_step zq19 hb);clear hb))
     repeat(go_quiet (first|(go_at_call 17;(with_reducible refine(spec_LogicOk.calls k1 _ _ l0_0 _ _ l0_1 e0 _ ?side1 ?side2 ?side3 ?side4 A5.out).mono ?_);(case side1=> exact zq34);(case side2=>exact a6.out);(case side3=> exact zq31);(case side4=>exact c0.out);rintro e w7 ⟨rfl,hb⟩;replace a0:=zqm (blk_below (g:=a2) (o:= .cells #[.slice A0_0 l0_0.length c0_0,.slice A0_1 l0_1.length c0_1] 26 (0,0)) (zqe a0.out) hb);replace HB:=zqm (below_step zq19 hb);clear hb));try go_wp2_with (first|(go_at_call 17;(with_reducible refine(spec_LogicOk.calls k1 _ _ l0_0 _ _ l0_1 e0 _ ?side1 ?side2 ?side3 ?side4 A5.out).mono ?_);(case side1=> exact zq34);(case side2=>exact a6.out);(case side3=> exact zq31);(case side4=>exact c0.out);rintro e w7 ⟨rfl,hb⟩;replace a0:=zqm (blk_below (g:=a2) (o:= .cells #[.slice A0_0 l0_0.length c0_0,.slice A0_1 l0_1.length c0_1] 26 (0,0)) (zqe a0.out) hb);replace HB:=zqm (below_step zq19 hb);clear hb)))
     go_meet
     case rel=>exact⟨_,(e0),zq7,H',⟨by have:=c6.out;first|omega|exact Nat.le_refl _⟩,⟨zqe a0.out⟩,⟨zq19⟩⟩
    ·rw [if_neg c4] at H;have c1:decide (a1<(l0_1.length:Int))=false:=decide_eq_false c4;clear c4;(first|rw [c1]|(simp only [i64_w,i32_w];rw [c1])|skip);have H':=zqm H;clear H;have e5:wr.cell? ⟨a2,0,none⟩=some (.slice A0_0 l0_0.length c0_0):=(blk_cell a0.out 0).trans rfl;have e6:wr.cell? ⟨a2,1,none⟩=some (.slice A0_1 l0_1.length c0_1):=(blk_cell a0.out 1).trans rfl;have e9:=blk_frozen a0.out 0;have f0:=blk_frozen a0.out 1
     go_wp2
     repeat(go_quiet (fail);try go_wp2)
     go_meet
     case rel=>exact⟨_,(false),zq7,H',⟨by have:=c6.out;first|omega|exact Nat.le_refl _⟩,⟨zqe a0.out⟩,⟨zq19⟩⟩
   case rest=>
    clear g6;(try clear p2);(try clear c3);(try clear c4);(try clear c1);(try clear e3);(try clear e4);(try clear e5);(try clear e6);(try clear e7);(try clear e8);(try clear e9);(try clear f0);(try clear p2);obtain⟨kq,c8,rfl,HA,d7,a0,HB⟩:=hcut
    cases kq with
    |zero=>exact absurd HA.out (by simp [spec_KeepsOk.j1])
    |succ f1=>
     have H:=HA.out;clear HA;simp only [spec_KeepsOk.j1] at H
     by_cases c9:c8=true
     ·subst c9;rw [if_pos rfl] at H;have H':=zqm H;clear H
      go_wp2
      repeat(go_quiet (fail);try go_wp2)
      go_loopg [4] f1 (fun kq v4 w'=> ∃(a3:Int),v4= .int .i64 a3∧Aside0 (spec_KeepsOk.l1 kq a1 a3 l0_0 l0_1=some r)∧Aside0 (kq≤f1)∧Aside0 (w'.heap[a2]? =some (.cells #[(.slice A0_0 l0_0.length c0_0),(.slice A0_1 l0_1.length c0_1)] 26 (0,0)))∧Aside0 (Below w.heap.size w w'))
      case atStart=>exact⟨(0),zq7,H',⟨Nat.le_refl _⟩,⟨zqe a0.out⟩,⟨zq19⟩⟩
      case round=>
       clear H';(try clear p2);(try clear c3);(try clear c4);(try clear c1);(try clear c9);(try clear e3);(try clear e4);(try clear e5);(try clear e6);(try clear e7);(try clear e8);(try clear e9);(try clear f0);(try clear p2);obtain⟨a3,rfl,HA,d8,a0,HB⟩:=hrel
       cases gk with
       |zero=>exact absurd HA.out (by simp [spec_KeepsOk.l1])
       |succ k3=>
        have H:=HA.out;clear HA;simp only [spec_KeepsOk.l1] at H
        by_cases d9:a3<(l0_1.length:Int)
        ·rw [if_pos d9] at H;have g8:decide (a3<(l0_1.length:Int))=true:=decide_eq_true d9;clear d9
         by_cases f7:0≤a1
         ·rw [if_pos f7] at H;have j7:decide (0≤a1)=true:=decide_eq_true f7;clear f7
          by_cases f8:a1<(l0_0.length:Int)
          ·rw [if_pos f8] at H;have j8:decide (a1<(l0_0.length:Int))=true:=decide_eq_true f8;clear f8
           by_cases f9:0≤a3
           ·rw [if_pos f9] at H;have j9:decide (0≤a3)=true:=decide_eq_true f9;clear f9
            by_cases g0:a3<((rd_L2 l0_0 a1).length:Int)
            ·rw [if_pos g0] at H;have k0:decide (a3<((rd_L2 l0_0 a1).length:Int))=true:=decide_eq_true g0;clear g0
             by_cases d0:(rd (rd_L2 l0_0 a1) a3)=1
             ·rw [if_pos d0] at H;have g9:((rd (rd_L2 l0_0 a1) a3)==1)=true:=beq_iff_eq.mpr d0;have h0:((rd (rd_L2 l0_0 a1) a3) !=1)=false:=bne_eq_false_iff_eq.mpr d0;clear d0
              by_cases g1:a1<(l0_1.length:Int)
              ·rw [if_pos g1] at H;have k2:decide (a1<(l0_1.length:Int))=true:=decide_eq_true g1;clear g1;replace H:=Option.bind_eq_some_iff.mp H;obtain⟨b2,g2,H⟩:=H;(try dsimp only at H);have d4:=zqm g2;clear g2;replace H:=Option.bind_eq_some_iff.mp H;obtain⟨b7,g3,H⟩:=H;(try dsimp only at H);have d5:=zqm g3;clear g3
               by_cases d1:b7=a3
               ·rw [if_pos d1] at H;have h1:(b7==a3)=true:=beq_iff_eq.mpr d1;have h2:(b7 !=a3)=false:=bne_eq_false_iff_eq.mpr d1;clear d1;have H':=zqm H;clear H;have h5:wr.cell? ⟨a2,0,none⟩=some (.slice A0_0 l0_0.length c0_0):=(blk_cell a0.out 0).trans rfl;have h6:wr.cell? ⟨a2,1,none⟩=some (.slice A0_1 l0_1.length c0_1):=(blk_cell a0.out 1).trans rfl;have i5:=blk_frozen a0.out 0;have i6:=blk_frozen a0.out 1;have b3:0≤(a1:Int):=zqo;have b5:a1<(l0_0.length:Int):=zqo;obtain⟨f5,e1,e2,d2,a7,b0,a9⟩:=at_L2 a5.out a1 b3 b5
                cases d2
                replace a7:=(HB.out.cell (World.block_lt_of_cell? w _ a7)).trans a7;have b9:=zqm a9;have d6:=zqm b0;clear a9 b0;replace b3:=eq_true b3;replace b5:=eq_true b5;have b4:0≤(a3:Int):=zqo;have b6:a3<((rd_L2 l0_0 a1).length:Int):=zqo;obtain⟨f6,d3,a8⟩:=Kd.at_int b9.out a3 b4 b6
                cases d3
                replace a8:=(HB.out.cell (World.block_lt_of_cell? w _ a8)).trans a8;replace b4:=eq_true b4;replace b6:=eq_true b6;have c2:0≤(a1:Int):=zqo;have c5:a1<(l0_1.length:Int):=zqo;obtain⟨g7,f2,b1⟩:=Kd.at_int b8.out a1 c2 c5
                cases f2
                replace b1:=(HB.out.cell (World.block_lt_of_cell? w _ b1)).trans b1;replace c2:=eq_true c2;replace c5:=eq_true c5
                go_wp2_with (first|(go_at_call 80;(with_reducible refine(spec_l1Meet.calls k3 _ _ l0_0 a3 (rd l0_1 a1) b2 _ ?side1 ?side2 d4.out).mono ?_);(case side1=> exact zq34);(case side2=>exact a6.out);rintro e w' ⟨rfl,⟨nd,rfl⟩⟩;(try first|exact⟨rfl,_,World.drewN_drewN _ _ _⟩|exact⟨rfl,_,Eq.trans (World.drewN_drewN _ _ _) (congrArg (World.drewN _) (Nat.add_assoc _ _ _))⟩))|(go_at_call 94;(with_reducible refine(spec_l1Join.calls k3 _ _ l0_0 a1 b2 b7 _ ?side1 ?side2 d5.out).mono ?_);(case side1=> exact zq38);(case side2=>exact a6.out);rintro e w' ⟨rfl,⟨nd,rfl⟩⟩;(try first|exact⟨rfl,_,World.drewN_drewN _ _ _⟩|exact⟨rfl,_,Eq.trans (World.drewN_drewN _ _ _) (congrArg (World.drewN _) (Nat.add_assoc _ _ _))⟩)))
                repeat(go_quiet (first|(go_at_call 80;(with_reducible refine(spec_l1Meet.calls k3 _ _ l0_0 a3 (rd l0_1 a1) b2 _ ?side1 ?side2 d4.out).mono ?_);(case side1=> exact zq34);(case side2=>exact a6.out);rintro e w' ⟨rfl,⟨nd,rfl⟩⟩;(try first|exact⟨rfl,_,World.drewN_drewN _ _ _⟩|exact⟨rfl,_,Eq.trans (World.drewN_drewN _ _ _) (congrArg (World.drewN _) (Nat.add_assoc _ _ _))⟩))|(go_at_call 94;(with_reducible refine(spec_l1Join.calls k3 _ _ l0_0 a1 b2 b7 _ ?side1 ?side2 d5.out).mono ?_);(case side1=> exact zq38);(case side2=>exact a6.out);rintro e w' ⟨rfl,⟨nd,rfl⟩⟩;(try first|exact⟨rfl,_,World.drewN_drewN _ _ _⟩|exact⟨rfl,_,Eq.trans (World.drewN_drewN _ _ _) (congrArg (World.drewN _) (Nat.add_assoc _ _ _))⟩)));try go_wp2_with (first|(go_at_call 80;(with_reducible refine(spec_l1Meet.calls k3 _ _ l0_0 a3 (rd l0_1 a1) b2 _ ?side1 ?side2 d4.out).mono ?_);(case side1=> exact zq34);(case side2=>exact a6.out);rintro e w' ⟨rfl,⟨nd,rfl⟩⟩;(try first|exact⟨rfl,_,World.drewN_drewN _ _ _⟩|exact⟨rfl,_,Eq.trans (World.drewN_drewN _ _ _) (congrArg (World.drewN _) (Nat.add_assoc _ _ _))⟩))|(go_at_call 94;(with_reducible refine(spec_l1Join.calls k3 _ _ l0_0 a1 b2 b7 _ ?side1 ?side2 d5.out).mono ?_);(case side1=> exact zq38);(case side2=>exact a6.out);rintro e w' ⟨rfl,⟨nd,rfl⟩⟩;(try first|exact⟨rfl,_,World.drewN_drewN _ _ _⟩|exact⟨rfl,_,Eq.trans (World.drewN_drewN _ _ _) (congrArg (World.drewN _) (Nat.add_assoc _ _ _))⟩))))
                go_roundg k3
                (case measure=> exact zq187);case rel=>exact⟨(wrap64 (a3+1)),zq7,H',⟨zq187⟩,⟨zqe a0.out⟩,⟨zq19⟩⟩
               ·rw [if_neg d1] at H;have h1:(b7==a3)=false:=beq_eq_false_iff_ne.mpr d1;have h2:(b7 !=a3)=true:=bne_iff_ne.mpr d1;obtain rfl:=Option.some.inj H;have h7:wr.cell? ⟨a2,0,none⟩=some (.slice A0_0 l0_0.length c0_0):=(blk_cell a0.out 0).trans rfl;have h8:wr.cell? ⟨a2,1,none⟩=some (.slice A0_1 l0_1.length c0_1):=(blk_cell a0.out 1).trans rfl;have i7:=blk_frozen a0.out 0;have i8:=blk_frozen a0.out 1;have b3:0≤(a1:Int):=zqo;have b5:a1<(l0_0.length:Int):=zqo;obtain⟨f5,e1,e2,d2,a7,b0,a9⟩:=at_L2 a5.out a1 b3 b5
                cases d2
                replace a7:=(HB.out.cell (World.block_lt_of_cell? w _ a7)).trans a7;have b9:=zqm a9;have d6:=zqm b0;clear a9 b0;replace b3:=eq_true b3;replace b5:=eq_true b5;have b4:0≤(a3:Int):=zqo;have b6:a3<((rd_L2 l0_0 a1).length:Int):=zqo;obtain⟨f6,d3,a8⟩:=Kd.at_int b9.out a3 b4 b6
                cases d3
                replace a8:=(HB.out.cell (World.block_lt_of_cell? w _ a8)).trans a8;replace b4:=eq_true b4;replace b6:=eq_true b6;have c2:0≤(a1:Int):=zqo;have c5:a1<(l0_1.length:Int):=zqo;obtain⟨g7,f2,b1⟩:=Kd.at_int b8.out a1 c2 c5
                cases f2
                replace b1:=(HB.out.cell (World.block_lt_of_cell? w _ b1)).trans b1;replace c2:=eq_true c2;replace c5:=eq_true c5
                go_wp2_with (first|(go_at_call 80;(with_reducible refine(spec_l1Meet.calls k3 _ _ l0_0 a3 (rd l0_1 a1) b2 _ ?side1 ?side2 d4.out).mono ?_);(case side1=> exact zq34);(case side2=>exact a6.out);rintro e w' ⟨rfl,⟨nd,rfl⟩⟩;(try first|exact⟨rfl,_,World.drewN_drewN _ _ _⟩|exact⟨rfl,_,Eq.trans (World.drewN_drewN _ _ _) (congrArg (World.drewN _) (Nat.add_assoc _ _ _))⟩))|(go_at_call 94;(with_reducible refine(spec_l1Join.calls k3 _ _ l0_0 a1 b2 b7 _ ?side1 ?side2 d5.out).mono ?_);(case side1=> exact zq38);(case side2=>exact a6.out);rintro e w' ⟨rfl,⟨nd,rfl⟩⟩;(try first|exact⟨rfl,_,World.drewN_drewN _ _ _⟩|exact⟨rfl,_,Eq.trans (World.drewN_drewN _ _ _) (congrArg (World.drewN _) (Nat.add_assoc _ _ _))⟩)))
                repeat(go_quiet (first|(go_at_call 80;(with_reducible refine(spec_l1Meet.calls k3 _ _ l0_0 a3 (rd l0_1 a1) b2 _ ?side1 ?side2 d4.out).mono ?_);(case side1=> exact zq34);(case side2=>exact a6.out);rintro e w' ⟨rfl,⟨nd,rfl⟩⟩;(try first|exact⟨rfl,_,World.drewN_drewN _ _ _⟩|exact⟨rfl,_,Eq.trans (World.drewN_drewN _ _ _) (congrArg (World.drewN _) (Nat.add_assoc _ _ _))⟩))|(go_at_call 94;(with_reducible refine(spec_l1Join.calls k3 _ _ l0_0 a1 b2 b7 _ ?side1 ?side2 d5.out).mono ?_);(case side1=> exact zq38);(case side2=>exact a6.out);rintro e w' ⟨rfl,⟨nd,rfl⟩⟩;(try first|exact⟨rfl,_,World.drewN_drewN _ _ _⟩|exact⟨rfl,_,Eq.trans (World.drewN_drewN _ _ _) (congrArg (World.drewN _) (Nat.add_assoc _ _ _))⟩)));try go_wp2_with (first|(go_at_call 80;(with_reducible refine(spec_l1Meet.calls k3 _ _ l0_0 a3 (rd l0_1 a1) b2 _ ?side1 ?side2 d4.out).mono ?_);(case side1=> exact zq34);(case side2=>exact a6.out);rintro e w' ⟨rfl,⟨nd,rfl⟩⟩;(try first|exact⟨rfl,_,World.drewN_drewN _ _ _⟩|exact⟨rfl,_,Eq.trans (World.drewN_drewN _ _ _) (congrArg (World.drewN _) (Nat.add_assoc _ _ _))⟩))|(go_at_call 94;(with_reducible refine(spec_l1Join.calls k3 _ _ l0_0 a1 b2 b7 _ ?side1 ?side2 d5.out).mono ?_);(case side1=> exact zq38);(case side2=>exact a6.out);rintro e w' ⟨rfl,⟨nd,rfl⟩⟩;(try first|exact⟨rfl,_,World.drewN_drewN _ _ _⟩|exact⟨rfl,_,Eq.trans (World.drewN_drewN _ _ _) (congrArg (World.drewN _) (Nat.add_assoc _ _ _))⟩))))
                go_ret
                exact⟨zq13,zq19⟩
              ·rw [if_neg g1] at H;exact absurd H (by simp)
             ·rw [if_neg d0] at H;have g9:((rd (rd_L2 l0_0 a1) a3)==1)=false:=beq_eq_false_iff_ne.mpr d0;have h0:((rd (rd_L2 l0_0 a1) a3) !=1)=true:=bne_iff_ne.mpr d0;have H':=zqm H;clear H;have h9:wr.cell? ⟨a2,0,none⟩=some (.slice A0_0 l0_0.length c0_0):=(blk_cell a0.out 0).trans rfl;have i0:wr.cell? ⟨a2,1,none⟩=some (.slice A0_1 l0_1.length c0_1):=(blk_cell a0.out 1).trans rfl;have i9:=blk_frozen a0.out 0;have j0:=blk_frozen a0.out 1;have b3:0≤(a1:Int):=zqo;have b5:a1<(l0_0.length:Int):=zqo;obtain⟨f5,e1,e2,d2,a7,b0,a9⟩:=at_L2 a5.out a1 b3 b5
              cases d2
              replace a7:=(HB.out.cell (World.block_lt_of_cell? w _ a7)).trans a7;have b9:=zqm a9;have d6:=zqm b0;clear a9 b0;replace b3:=eq_true b3;replace b5:=eq_true b5;have b4:0≤(a3:Int):=zqo;have b6:a3<((rd_L2 l0_0 a1).length:Int):=zqo;obtain⟨f6,d3,a8⟩:=Kd.at_int b9.out a3 b4 b6
              cases d3
              replace a8:=(HB.out.cell (World.block_lt_of_cell? w _ a8)).trans a8;replace b4:=eq_true b4;replace b6:=eq_true b6
              go_wp2
              repeat(go_quiet (fail);try go_wp2)
              go_roundg k3
              (case measure=> exact zq187);case rel=>exact⟨(wrap64 (a3+1)),zq7,H',⟨zq187⟩,⟨zqe a0.out⟩,⟨zq19⟩⟩
            ·rw [if_neg g0] at H;exact absurd H (by simp)
           ·rw [if_neg f9] at H;exact absurd H (by simp)
          ·rw [if_neg f8] at H;exact absurd H (by simp)
         ·rw [if_neg f7] at H;exact absurd H (by simp)
        ·rw [if_neg d9] at H;have g8:decide (a3<(l0_1.length:Int))=false:=decide_eq_false d9;clear d9;have H':=zqm H;clear H;have i1:wr.cell? ⟨a2,0,none⟩=some (.slice A0_0 l0_0.length c0_0):=(blk_cell a0.out 0).trans rfl;have i2:wr.cell? ⟨a2,1,none⟩=some (.slice A0_1 l0_1.length c0_1):=(blk_cell a0.out 1).trans rfl;have j2:=blk_frozen a0.out 0;have j3:=blk_frozen a0.out 1
         go_wp2
         repeat(go_quiet (fail);try go_wp2)
         go_roundg k3
         (case measure=> exact zq187);case rel=>exact⟨(wrap64 (a1+1)),zq7,H',⟨zq187⟩,⟨zqe a0.out⟩,⟨zq19⟩⟩
     ·replace c9:=Bool.eq_false_iff.mpr c9;subst c9;rw [if_neg (show¬(false=true) by decide)] at H;replace H:=Option.bind_eq_some_iff.mp H;obtain⟨f3,g5,H⟩:=H;(try dsimp only at H);have g4:=zqm g5;clear g5;obtain rfl:=Option.some.inj H;have i3:wc.cell? ⟨a2,0,none⟩=some (.slice A0_0 l0_0.length c0_0):=(blk_cell a0.out 0).trans rfl;have i4:wc.cell? ⟨a2,1,none⟩=some (.slice A0_1 l0_1.length c0_1):=(blk_cell a0.out 1).trans rfl;have j4:=blk_frozen a0.out 0;have j5:=blk_frozen a0.out 1
      go_wp2_with (first|(go_at_call 17;(with_reducible refine(spec_LogicOk.calls f1 _ _ l0_0 _ _ l0_1 f3 _ ?side1 ?side2 ?side3 ?side4 g4.out).mono ?_);(case side1=> exact zq34);(case side2=>exact a6.out);(case side3=> exact zq31);(case side4=>exact c0.out);rintro e h4 ⟨rfl,hb⟩;replace a0:=zqm (blk_below (g:=a2) (o:= .cells #[.slice A0_0 l0_0.length c0_0,.slice A0_1 l0_1.length c0_1] 26 (0,0)) (zqe a0.out) hb);replace HB:=zqm (below_step zq19 hb);clear hb))
      repeat(go_quiet (first|(go_at_call 17;(with_reducible refine(spec_LogicOk.calls f1 _ _ l0_0 _ _ l0_1 f3 _ ?side1 ?side2 ?side3 ?side4 g4.out).mono ?_);(case side1=> exact zq34);(case side2=>exact a6.out);(case side3=> exact zq31);(case side4=>exact c0.out);rintro e h4 ⟨rfl,hb⟩;replace a0:=zqm (blk_below (g:=a2) (o:= .cells #[.slice A0_0 l0_0.length c0_0,.slice A0_1 l0_1.length c0_1] 26 (0,0)) (zqe a0.out) hb);replace HB:=zqm (below_step zq19 hb);clear hb));try go_wp2_with (first|(go_at_call 17;(with_reducible refine(spec_LogicOk.calls f1 _ _ l0_0 _ _ l0_1 f3 _ ?side1 ?side2 ?side3 ?side4 g4.out).mono ?_);(case side1=> exact zq34);(case side2=>exact a6.out);(case side3=> exact zq31);(case side4=>exact c0.out);rintro e h4 ⟨rfl,hb⟩;replace a0:=zqm (blk_below (g:=a2) (o:= .cells #[.slice A0_0 l0_0.length c0_0,.slice A0_1 l0_1.length c0_1] 26 (0,0)) (zqe a0.out) hb);replace HB:=zqm (below_step zq19 hb);clear hb)))
      go_ret
      exact⟨zq13,zq19⟩
end Go.Proofs.Ytcbjpdaogicibaa.Print
end
section
namespace Go.Proofs.Ytcbjpdaogicibaa.Print
open Go.RowKit Go.Proofs.YtcbjpdaogicibaaW.PrintWords Go.Proofs.YtcbjpdaogicibaaW.PrintLast Go.Proofs.YtcbjpdaogicibaaW.PrintMore
open Oml
section
theorem spec_KeepsOk.ev (U : List (List Int)) (N : List Int) : Ev (fun k => spec_KeepsOk.f k U N) (if logicB U N = true then keepB U N else false) := by
 unfold spec_KeepsOk.f
 have hlo:=spec_LogicOk.ev U N
 cases hg:logicB U N with
 |false=>
  rw [hg] at hlo
  rw [if_neg (by simp)]
  refine Ev.succ ?_
  simp only [spec_KeepsOk.l0]
  have hj:Ev (fun k=>spec_KeepsOk.j1 k 0 false U N) false:=by
   refine Ev.succ ?_
   simp only [spec_KeepsOk.j1]
   exact Ev.ite_neg (by simp) (Ev.bind hlo (Ev.now _))
  by_cases h0:(0:Int)<(N.length:Int)
  ·exact Ev.ite_pos h0 (Ev.bind hlo hj)
  ·exact Ev.ite_neg h0 hj
 |true=>
  rw [hg] at hlo
  have L:=logicB_iff.1 hg
  have hlen:=L.len
  have hsm:=L.small
  rw [if_pos rfl]
  unfold keepB
  refine Ev.eq (Ev.all (g:=fun k i=>spec_KeepsOk.l0 k i U N) (n:=U.length) (fun a=>allN U.length fun b=>keepT U N a b) (go:=true) (stop:=false) (by omega) (fun _=>?_) (fun i hi _ R hR=>?_)) (by cases allN U.length _ <;> rfl)
  ·refine Ev.succ ?_
   simp only [spec_KeepsOk.l0]
   refine Ev.ite_neg (by omega) (Ev.succ ?_)
   simp only [spec_KeepsOk.j1]
   exact Ev.ite_neg (by simp) (Ev.bind hlo (Ev.now _))
  ·refine Ev.succ ?_
   simp only [spec_KeepsOk.l0]
   refine Ev.ite_pos (by omega) (Ev.bind hlo (Ev.succ ?_))
   simp only [spec_KeepsOk.j1]
   refine Ev.ite_pos (by simp) ?_
   have hrow:=L.row i hi
   have hran:=L.ran i hi
   refine Ev.all (g:=fun k j=>spec_KeepsOk.l1 k (i:Int) j U N) (n:=U.length) (fun b=>keepT U N i b) (go:=R) (stop:=false) (by omega) (fun hall=>?_) (fun j hj _ R' hR'=>?_)
   ·refine Ev.succ ?_
    simp only [spec_KeepsOk.l1]
    exact Ev.ite_neg (by omega) (hR (allN_iff.2 hall))
   ·refine Ev.succ ?_
    simp only [spec_KeepsOk.l1,rdL_nat,rd_nat,rd_row,hrow]
    refine Ev.ite_pos (by omega) (Ev.ite_pos (by omega) (Ev.ite_pos (by omega) (Ev.ite_pos (by omega) (Ev.ite_pos (by omega) ?_))))
    have hk:keepT U N i j=((at2 U i j==0)||(orI U i (andI U j (notI N i))==(j:Int))):=by
     unfold keepT;rw [Int.toNat_natCast,Int.toNat_natCast]
    rcases L.bit i j hi hj with e|e
    ·rw [hk,e] at hR' ⊢
     exact Ev.ite_neg (by omega) (hR' rfl)
    ·have iI:In U ((i:Nat):Int):=⟨by omega,by omega⟩
     have iJ:In U ((j:Nat):Int):=⟨by omega,by omega⟩
     have hn:at1 N i=notI N (i:Int):=by unfold notI;rw [Int.toNat_natCast]
     rw [hk,e] at hR' ⊢
     rw [hn]
     refine Ev.ite_pos (by simp) (Ev.ite_pos (by omega) (Ev.bind (meet_in L iJ (L.in_not iI)) (Ev.bind (join_in L iI (L.in_and iJ (L.in_not iI))) ?_)))
     by_cases c:orI U i (andI U j (notI N i))=(j:Int)
     ·have c2:((1:Int)==0||(orI U i (andI U j (notI N i))==(j:Int)))=true:=by rw [c];simp
      rw [c2] at hR' ⊢
      exact Ev.ite_pos c (hR' rfl)
     ·have c2:((1:Int)==0||(orI U i (andI U j (notI N i))==(j:Int)))=false:=by
       rw [Bool.or_eq_false_iff];exact⟨rfl,beq_eq_false_iff_ne.2 c⟩
      rw [c2]
      exact Ev.ite_neg c (Ev.now _)
section
variable {U : List (List Int)} {N : List Int} (L : Logic U N)
include L
theorem at2_fin (x y : Fin U.length) : (at2 U x.1 y.1 = 1 ↔ L.ol.le x y) ∧ (at2 U x.1 y.1 = 0 ↔ ¬ L.ol.le x y) := by
 have h:L.ol.le x y↔at2 U x.1 y.1=1:=by
  rw [← leB_fin L];unfold leB;exact beq_iff_eq
 refine⟨h.symm,?_⟩
 rw [h]
 rcases L.bit x.1 y.1 x.2 y.2 with e|e <;> omega
theorem keepB_iff : keepB U N = true ↔ L.ol.Keeps := by
 unfold keepB OL.Keeps
 rw [allN_fin]
 have key: ∀x y:Fin U.length,keepT U N x.1 y.1=true↔(L.ol.le x y→L.ol.join x (L.ol.meet y (L.ol.neg x))=y):=fun x y=>by
  unfold keepT
  rw [Int.toNat_natCast,Int.toNat_natCast,not_fin L,and_fin L,or_fin L,fin_beq,Bool.or_eq_true,beq_iff_eq,decide_eq_true_eq,(at2_fin L x y).2]
  exact⟨fun h k=>h.resolve_left (fun n=>n k),fun h=>(Classical.em (L.ol.le x y)).elim (fun k=> .inr (h k)) .inl⟩
 constructor
 ·intro h x y
  exact(key x y).1 (allN_fin.1 (h x) y)
 ·intro h x
  exact allN_fin.2 fun y=>(key x y).2 (h x y)
end
theorem inR_three {U : List (List Int)} (x y z : Fin U.length) : [((x.1 : Nat) : Int), ((y.1 : Nat) : Int), ((z.1 : Nat) : Int)].all (inR U.length) = true := by
 simp only [List.all_cons,List.all_nil,Bool.and_true,Bool.and_eq_true,inR_iff];exact⟨in_fin x,in_fin y,in_fin z⟩
end
section
def blkS (U : List (List Int)) (N : List Int) : List Nat := blkR U.length fun a b => bothB U N (a : Int) (b : Int)
section
variable {U : List (List Int)} {N : List Int} (L : Logic U N)
include L
theorem withB_fin (x y : Fin U.length) : withB U N x.1 y.1 = true ↔ L.ol.C x y := by
 unfold withB OL.C
 rw [not_fin L, and_fin L, and_fin L, or_fin L, fin_beq, decide_eq_true_eq]
theorem bothB_fin (x y : Fin U.length) : bothB U N x.1 y.1 = true ↔ L.ol.C x y ∧ L.ol.C y x := by
 unfold bothB
 rw [Bool.and_eq_true, withB_fin L, withB_fin L]
theorem both_refl : ∀ a, a < U.length → bothB U N (a : Int) (a : Int) = true := fun a ha => by
 obtain ⟨x, rfl⟩ := fin_of_nat ha
 exact (bothB_fin L x x).2 ⟨OL.C_refl x, OL.C_refl x⟩
theorem both_symm : ∀ a b, a < U.length → b < U.length → bothB U N (a : Int) (b : Int) = true → bothB U N (b : Int) (a : Int) = true := fun a b ha hb h => by
 obtain⟨x,rfl⟩:=fin_of_nat ha
 obtain⟨y,rfl⟩:=fin_of_nat hb
 have:=(bothB_fin L x y).1 h
 exact(bothB_fin L y x).2 ⟨this.2,this.1⟩
theorem one_block : (blkS U N).length = 1 ↔ ∀ x y, L.ol.C x y := by
 unfold blkS
 rw [blkR_one L.pos (both_refl L) (both_symm L)]
 constructor
 ·intro h x y
  exact((bothB_fin L x y).1 (h x.1 y.1 x.2 y.2)).1
 ·intro h a b ha hb
  obtain⟨x,rfl⟩:=fin_of_nat ha
  obtain⟨y,rfl⟩:=fin_of_nat hb
  exact(bothB_fin L x y).2 ⟨h x y,h y x⟩
end
end
section
section
variable {U : List (List Int)} {N : List Int} (L : Logic U N)
include L
theorem sameB_iff (f h : Fm) : sameB U N f h = true ↔ ∀ x y z, valO L x y z f = valO L x y z h := by
 unfold sameB
 rw [allN_fin]
 have key: ∀x y z:Fin U.length,sameT U N f h x.1 y.1 z.1=true↔valO L x y z f=valO L x y z h:=fun x y z=>by
  unfold sameT
  rw [val_fin L,val_fin L,fin_beq,decide_eq_true_eq]
 constructor
 ·intro k x y z
  exact(key x y z).1 (allN_fin.1 (allN_fin.1 (k x) y) z)
 ·intro k x
  exact allN_fin.2 fun y=>allN_fin.2 fun z=>(key x y z).2 (k x y z)
theorem always_or : sameB U N (.bin 124 (.leaf 97) (.neg (.leaf 97))) (.leaf 49) = true := by
 rw [sameB_iff L]
 intro x y z
 simp [valO, L.ol.join_neg]
theorem always_not : sameB U N (.neg (.bin 38 (.leaf 97) (.neg (.leaf 97)))) (.leaf 49) = true := by
 rw [sameB_iff L]
 intro x y z
 simp [valO, L.ol.meet_neg, OL.top]
theorem always_whole (K : L.ol.Keeps) : sameB U N (.bin 124 (.bin 38 (.leaf 97) (.leaf 98)) (.bin 124 (.bin 38 (.leaf 97) (.neg (.leaf 98))) (.bin 124 (.bin 38 (.neg (.leaf 97)) (.leaf 98)) (.bin 38 (.neg (.leaf 97)) (.neg (.leaf 98)))))) (.leaf 49) = decide ((blkS U N).length = 1) := by
 rw [Bool.eq_iff_iff,sameB_iff L,decide_eq_true_eq,one_block L]
 constructor
 ·intro h a b
  have:=h a b a
  exact(K.comm_top_iff a b).1 (by simpa [valO] using this)
 ·intro h a b c
  have:=(K.comm_top_iff a b).2 (h a b)
  simpa [valO] using this
end
theorem fm_em : fmOf ⟨#[40, 97, 124, 33, 97, 41]⟩ = some (.bin 124 (.leaf 97) (.neg (.leaf 97))) := by kernel_rfl
theorem fm_nc : fmOf ⟨#[33, 40, 97, 38, 33, 97, 41]⟩ = some (.neg (.bin 38 (.leaf 97) (.neg (.leaf 97)))) := by kernel_rfl
theorem fm_whole : fmOf ⟨#[40, 40, 97, 38, 98, 41, 124, 40, 40, 97, 38, 33, 98, 41, 124, 40, 40, 33, 97, 38, 98, 41, 124, 40, 33, 97, 38, 33, 98, 41, 41, 41, 41]⟩ = some (.bin 124 (.bin 38 (.leaf 97) (.leaf 98)) (.bin 124 (.bin 38 (.leaf 97) (.neg (.leaf 98))) (.bin 124 (.bin 38 (.neg (.leaf 97)) (.leaf 98)) (.bin 38 (.neg (.leaf 97)) (.neg (.leaf 98)))))) := by kernel_rfl
theorem fm_1 : fmOf ⟨#[49]⟩ = some (.leaf 49) := by kernel_rfl
end
end Go.Proofs.Ytcbjpdaogicibaa.Print
end
section
namespace Go.Proofs.Ytcbjpdaogicibaa.Print
open Go.RowKit Go.Proofs.YtcbjpdaogicibaaW.PrintWords Go.Proofs.YtcbjpdaogicibaaW.PrintLast Go.Proofs.YtcbjpdaogicibaaW.PrintMore
def spec_DrawAlwaysOk.f (k : Nat) (l0 : List Int) : Option ((List (List Int)) × List Int × ByteArray) := (spec_l20Open.f l0).bind fun bt1087 => ((spec_l20Logic.f k bt1087.1 bt1087.2 14).bind fun bt1090 => ((spec_l20Formed.f k bt1087.1 bt1090.2.2 14).bind fun bt1097 => (some (bt1090.1, bt1090.2.1, bt1097.1))))
set_option maxHeartbeats 8000000 in
set_option maxRecDepth 100000 in
theorem spec_DrawAlwaysOk.calls (k : Nat) (A0 : Option Addr) (c0 : Nat) (l0 : List Int) (r1 : List (List Int)) (r2 : List Int) (r3 : ByteArray) (w : World) (hr0 : Kd.C (Kd.int .u8) w A0 l0.length l0) (hc0 : l0.length ≤ c0) (h : spec_DrawAlwaysOk.f k l0 = some (r1, r2, r3)) :
  Calls Try.prog 55 #[.slice A0 l0.length c0] w fun e w' => ∃ v0_ v1_ : Value, e = .returned (.tuple #[.agg #[v0_, v1_], .string r3]) ∧ Kd.S (Kd.slice 3 (Kd.int .i64)) 24 w' w.heap.size (fun k_ => some k_ ≠ (v1_ : Value).ownBlock) v0_ r1 ∧ Kd.Q (Kd.int .i64) 3 w' w.heap.size (fun _ => True) v1_ r2 ∧ Below w.heap.size w w' := by
 have hu26:=Try.underlying26;have d6:=zqm hr0;have d5:=zqm hc0;clear hr0 hc0;have HB:=zqm (Below.refl w.heap.size w);have H:((spec_l20Open.f l0).bind fun b4=>((spec_l20Logic.f k b4.1 b4.2 14).bind fun a4=>((spec_l20Formed.f k b4.1 a4.2.2 14).bind fun a9=>(some (a4.1,a4.2.1,a9.1)))))=some (r1,r2,r3):=h;clear h;replace H:=Option.bind_eq_some_iff.mp H;obtain⟨⟨a5,b5⟩,c4,H⟩:=H;replace H:((spec_l20Logic.f k a5 b5 14).bind fun a4=>((spec_l20Formed.f k a5 a4.2.2 14).bind fun a9=>(some (a4.1,a4.2.1,a9.1))))=some (r1,r2,r3):=H;have A2:=zqm c4;clear c4;replace H:=Option.bind_eq_some_iff.mp H;obtain⟨⟨a8,b0,b3⟩,c5,H⟩:=H;replace H:((spec_l20Formed.f k a5 b3 14).bind fun a9=>(some (a8,b0,a9.1)))=some (r1,r2,r3):=H;have A3:=zqm c5;clear c5;replace H:=Option.bind_eq_some_iff.mp H;obtain⟨⟨c2,c3⟩,c6,H⟩:=H;replace H:(some (a8,b0,c2))=some (r1,r2,r3):=H;have A4:=zqm c6;clear c6;simp only [Option.some.injEq,Prod.mk.injEq] at H;obtain⟨rfl,rfl,rfl⟩:=H
 go_enter Try.func55,Try.ntmps55
 go_wp2_with (first|((with_reducible refine gate_dst (N:=2) rfl ?_);refine box_event ?hg (N:=2) ?hd (cs:= #[.slice none 0 0,.slice none 0 0]) (t:=26) ?hr ?_;(case hd=>rfl);(case hg=>rfl);(case hr=> exact zq17);intro a2 hg w5 hbox hb;have b6:=zqm (below_step zq0 hb);have a0:=zqm (hbox);have d4:=zqm ((by rw [hg];exact(below_size zq0):w.heap.size≤a2));have a7:=zqm ((by rw [hg];exact(below_size zq0):w.heap.size≤a2));clear HB;have HB:=b6;clear b6 hb hbox hg)|((with_reducible refine gate_callee (f:=69) rfl ?_);refine goesL_ (some 6) rfl rfl Try.func69 zqk rfl #[.slice A0 l0.length c0] rfl zq1 ?_;(with_reducible refine(spec_l20Open.calls _ _ l0 a5 b5 w _ ?side1 ?side2 ?side3 A2.out).mono ?_);(case side1=>repeat(first|(with_reducible first|exact HB.out|apply below_alloc|apply pw_below_drewN|apply below_drew1|refine below_set ?_ a7.out)|exact HB.out));(case side2=>exact d6.out);(case side3=>exact d5.out);rintro e w6 ⟨g1089,rfl,hi,hb,hb2⟩;refine⟨_,rfl,?_⟩;have b6:=zqm (blk_below (g:=a2) (o:= .cells #[.slice none 0 0,.slice none 0 0] 26 (0,0)) (zqe a0.out) hb2);replace HB:=zqm (hb);have a1:=zqm (hi);have a3:=zqm (IsS110.ne_blk hi (blk_below (g:=a2) (o:= .cells #[.slice none 0 0,.slice none 0 0] 26 (0,0)) (zqe a0.out) hb2) (by decide));have a6:=zqm (Ne.symm (IsS110.ne_blk hi (blk_below (g:=a2) (o:= .cells #[.slice none 0 0,.slice none 0 0] 26 (0,0)) (zqe a0.out) hb2) (by decide)));clear a0;have a0:=b6;clear b6 hb hb2 hi)|((with_reducible refine gate_callee (f:=68) rfl ?_);refine goesL_ (some 8) rfl rfl Try.func68 zqk rfl #[.pointer (some ⟨g1089,0,none⟩),.int .i64 14] rfl zq1 ?_;(with_reducible refine(spec_l20Logic.calls k g1089 a5 b5 14 a8 b0 b3 w _ ?side1 ?side2 A3.out).mono ?_);(case side1=> exact zq75);(case side2=> exact zq59);rintro e w7 ⟨e0,e1,rfl,c7,c8,hi,hb,hk⟩;refine⟨_,rfl,?_⟩;replace a0:=zqm (KeepBut.blk hk (g':=a2) (o:= .cells #[.slice none 0 0,.slice none 0 0] 26 (0,0)) (zqe a0.out) a6.out (by simp));have b1:=zqm (Kd.S_lower c7 (below_size zq59));have b2:=zqm (Kd.Q_lower c8 (below_size zq59));replace HB:=zqm (hb);replace a1:=zqm (hi);clear hb hk hi c7 c8)|((with_reducible refine gate_callee (f:=102) rfl ?_);refine goesL_ (some 10) rfl rfl Try.func102 zqk rfl #[.pointer (some ⟨g1089,0,none⟩),.int .i64 14] rfl zq1 ?_;(with_reducible refine(spec_l20Formed.calls k g1089 a5 b3 14 c2 c3 w _ ?side1 ?side2 A4.out).mono ?_);(case side1=> exact zq75);(case side2=> exact zq59);rintro e w8 ⟨rfl,hi,hb,hk⟩;refine⟨_,rfl,?_⟩;replace a0:=zqm (KeepBut.blk hk (g':=a2) (o:= .cells #[.slice none 0 0,.slice none 0 0] 26 (0,0)) (zqe a0.out) a6.out (by simp));replace b1:=zqm (Kd.S_mono (Kd.S_keep (IsS110.apartS (show IsS110 w _ g1089 a5 b3 from zq75) (zqfS b1.out) (by decide)) hk (fun _ h=>h.2)) (fun _ h=>h.1));replace b2:=zqm (Kd.Q_mono (Kd.Q_keep (IsS110.apartQ (show IsS110 w _ g1089 a5 b3 from zq75) (zqfQ b2.out) (by decide)) hk (fun _ h=>h.2)) (fun _ h=>h.1));replace HB:=zqm (hb);replace a1:=zqm (hi);clear hb hk hi;obtain⟨b9,c1,d7⟩:=Kd.S_slice b1.out;subst d7;have d8:=a6.out;have d9:=a3.out;have d0:w8.cell? ⟨a2,0,none⟩=some (.slice none 0 0):=(blk_cell a0.out 0).trans rfl;have d1:w8.cell? ⟨a2,1,none⟩=some (.slice none 0 0):=(blk_cell a0.out 1).trans rfl;have d2:=blk_frozen a0.out 0;have d3:=blk_frozen a0.out 1;obtain⟨b7,b8,c9,_⟩:=Kd.Q_slice b2.out;subst c9))
 refine bodyPost_ret (results_ct rfl _ _ a2 26 #[.slice b9 a8.length c1,.slice b7 b0.length b8] (0,0) _ rfl (by refine zqe ?_;refine blk_put (cs:= #[.slice b9 a8.length c1,.slice none 0 0]) ?_ 1 _ rfl;refine zqe ?_;refine blk_put (cs:= #[.slice none 0 0,.slice none 0 0]) ?_ 0 _ rfl;refine zqe ?_;exact a0.out) Try.underlying26 rfl zqk) rfl ?_;exact⟨_,_,zq13,by refine zqfS ?_;exact Kd.S_mono (Kd.S_far (p:=⟨a2,1,none⟩) (Kd.S_far (p:=⟨a2,0,none⟩) (Kd.S_types b1.out a0.out (by decide)) (fun _ hk=>hk.2) (.slice b9 a8.length c1)) (fun _ hk=>hk.2) (.slice b7 b0.length b8)) (fun _ hk=>hk.1),by refine zqfQ ?_;exact Kd.Q_mono (Kd.Q_far (p:=⟨a2,1,none⟩) (Kd.Q_far (p:=⟨a2,0,none⟩) (Kd.Q_types b2.out a0.out (by decide)) (fun _ hk=>hk.2) (.slice b9 a8.length c1)) (fun _ hk=>hk.2) (.slice b7 b0.length b8)) (fun _ hk=>trivial),zq59⟩
end Go.Proofs.Ytcbjpdaogicibaa.Print
end
section
namespace Go.Proofs.Ytcbjpdaogicibaa.Print
open Go.RowKit Go.Proofs.YtcbjpdaogicibaaW.PrintWords Go.Proofs.YtcbjpdaogicibaaW.PrintLast Go.Proofs.YtcbjpdaogicibaaW.PrintMore
open Oml
def impl_YesOf.f (l0_0 : List (List Int)) (l0_1 : List Int) : Option (Int) := some (if logicB l0_0 l0_1 = true then (yesI l0_0 l0_1) else (-1))
set_option maxHeartbeats 1000000 in
theorem impl_YesOf.calls (A0_0 : Option Addr) (c0_0 : Nat) (l0_0 : List (List Int)) (A0_1 : Option Addr) (c0_1 : Nat) (l0_1 : List Int) (r : Int) (w : World) (hr0_0 : Kd.C (Kd.slice 3 (Kd.int .i64)) w A0_0 l0_0.length l0_0) (hc0_0 : l0_0.length ≤ c0_0) (hr0_1 : Kd.C (Kd.int .i64) w A0_1 l0_1.length l0_1) (hc0_1 : l0_1.length ≤ c0_1) (h : impl_YesOf.f l0_0 l0_1 = some r) :
 Calls Try.prog 58 #[.agg #[.slice A0_0 l0_0.length c0_0,.slice A0_1 l0_1.length c0_1]] w fun e w'=>e= .returned (.int .i64 r)∧Below w.heap.size w w':=by
 obtain⟨k,hF⟩:=told_facts l0_0
 have hu30:=Try.underlying26
 have hu70:=Try.underlying74
 have HF:=zqm hF
 have HR0:=zqm hr0_0
 have HC0:=zqm hc0_0
 have HR1:=zqm hr0_1
 have HC1:=zqm hc0_1
 simp only [impl_YesOf.f,Option.some.injEq] at h
 clear hr0_0 hc0_0 hr0_1 hc0_1 hF
 cases hL:logicB l0_0 l0_1 with
 |false=>
  rw [hL] at h
  have hr_:(-1)=r:=by simpa using h
  subst hr_
  have HLB:=zqm hL
  clear h hL
  go_enter Try.func58,Try.ntmps58
  go_wp2_with (first|((with_reducible refine gate_dst (N:=1) rfl ?_);refine box_event ?hg (N:=1) ?hd (cs:= #[.slice A0_0 l0_0.length c0_0,.slice A0_1 l0_1.length c0_1]) (t:=26) ?hr ?_;(case hd=>rfl);(case hg=>rfl);(case hr=> exact zq17);intro gb hg_ w1 hbox hb;have HB:=zqm hb;have hx0:w1.cell? ⟨gb,0,none⟩=some (.slice A0_0 l0_0.length c0_0):=(blk_cell hbox 0).trans rfl;have hx1:w1.cell? ⟨gb,1,none⟩=some (.slice A0_1 l0_1.length c0_1):=(blk_cell hbox 1).trans rfl;have HX:=zqm hbox;clear hbox hb hg_)|(go_at_call 70;(with_reducible refine(told_n k _ _ l0_0 _ _ l0_1 _ ?s1 ?s2 ?s3 ?s4 HF.out HLB.out).mono ?_);(case s1=> exact zq61);(case s2=>exact HC0.out);(case s3=> exact zq64);(case s4=>exact HC1.out);rintro e w2 ⟨rfl,hb⟩;have HB2:=zqm (below_step HB.out hb);clear hb hx0 hx1 HX HB))
  go_ret
  exact⟨rfl,HB2.out⟩
 |true=>
  rw [hL] at h
  have hr_:(yesI l0_0 l0_1)=r:=by simpa using h
  subst hr_
  have HLB:=zqm hL
  have HLg:=zqm (logicB_iff.1 hL)
  clear h hL
  go_enter Try.func58,Try.ntmps58
  go_wp2_with (first|((with_reducible refine gate_dst (N:=1) rfl ?_);refine box_event ?hg (N:=1) ?hd (cs:= #[.slice A0_0 l0_0.length c0_0,.slice A0_1 l0_1.length c0_1]) (t:=26) ?hr ?_;(case hd=>rfl);(case hg=>rfl);(case hr=> exact zq17);intro gb hg_ w1 hbox hb;have HB:=zqm hb;have hx0:w1.cell? ⟨gb,0,none⟩=some (.slice A0_0 l0_0.length c0_0):=(blk_cell hbox 0).trans rfl;have hx1:w1.cell? ⟨gb,1,none⟩=some (.slice A0_1 l0_1.length c0_1):=(blk_cell hbox 1).trans rfl;have HX:=zqm hbox;clear hbox hb hg_)|(go_at_call 70;(with_reducible refine(told_y k _ _ l0_0 _ _ l0_1 _ ?s1 ?s2 ?s3 ?s4 HF.out HLB.out).mono ?_);(case s1=> exact zq61);(case s2=>exact HC0.out);(case s3=> exact zq64);(case s4=>exact HC1.out);rintro e w2 ⟨g,v,rfl,hv,hge,hb⟩;have HB2:=zqm (below_step HB.out hb);have HV:=zqm hv;clear hv hge hb hx0 hx1 HX HB;have hf_:=HV.out.f5))
  go_ret
  exact⟨rfl,HB2.out⟩
end Go.Proofs.Ytcbjpdaogicibaa.Print
end
section
namespace Go.Proofs.Ytcbjpdaogicibaa.Print
open Go.RowKit Go.Proofs.YtcbjpdaogicibaaW.PrintWords Go.Proofs.YtcbjpdaogicibaaW.PrintLast Go.Proofs.YtcbjpdaogicibaaW.PrintMore
def impl_has.f (a0 : Int) (a1 : Int) : Option (Bool) := if 0 ≤ a1 then (some ((Go.bits .and .i64 (shr .i64 a0 a1) 1) == 1)) else (none)
set_option maxHeartbeats 8000000 in
set_option maxRecDepth 100000 in
theorem impl_has.calls (a0 : Int) (a1 : Int) (r : Bool) (w : World) (h : impl_has.f a0 a1 = some r) :
  Calls Try.prog 88 #[.int .i64 a0, .int .i64 a1] w fun e w' => e = .returned (.bool r) ∧ Drawn0 w w' := by
 have H : (if 0 ≤ a1 then (some ((Go.bits .and .i64 (shr .i64 a0 a1) 1) == 1)) else (none)) = some r := h
 clear h
 by_cases c3 : 0 ≤ a1
 ·rw [if_pos c3] at H
  have c3b0 := eq_true c3
  have c3b1 : decide (0 ≤ a1) = true := decide_eq_true c3
  clear c3
  obtain ⟨ji4, hji4⟩ : ∃ j_ : Int, (shr .i64 a0 a1) = j_ := ⟨_, rfl⟩
  replace H : (some ((Go.bits .and .i64 (ji4) 1) == 1)) = some r := by first | (rw [hji4] at H; exact H) | (simp only [hji4] at H ⊢; exact H)
  have hji4_ : (a0 / 2 ^ min a1.toNat 64) = ji4 := hji4
  have hji4z : a1 ≤ 64 → (a0 / 2 ^ a1.toNat) = ji4 := shr_small hji4
  obtain rfl := Option.some.inj H
  go_enter Try.func88, Try.ntmps88
  go_wp2
  go_ret
  exact ⟨by first | rfl | (simp; done) | (simp only [← hji4] <;> (first | rfl | simp)) | (simp [*]; done), by repeat (first | exact Drawn0.refl _ | apply Drawn0.step)⟩
 ·rw [if_neg c3] at H
  exact absurd H (by simp)
end Go.Proofs.Ytcbjpdaogicibaa.Print
end
section
namespace Go.Proofs.Ytcbjpdaogicibaa.Print
open Go.RowKit Go.Proofs.YtcbjpdaogicibaaW.PrintWords Go.Proofs.YtcbjpdaogicibaaW.PrintLast Go.Proofs.YtcbjpdaogicibaaW.PrintMore
open Oml
theorem has_nat (s : Nat) (hs : s < 4611686018427387904) {i : Nat} (h : i ≤ 64) : impl_has.f (s : Int) (i : Int) = some (s.testBit i) := by
 unfold impl_has.f
 rw [if_pos (by omega),shr_nat s h,show (1:Int)=((1:Nat):Int) from rfl,band_nat _ _ (Nat.lt_of_le_of_lt (Nat.div_le_self _ _) hs) (by omega),Nat.and_one_is_mod,testBit_div]
 have h2:s / 2 ^ i % 2=0∨s / 2 ^ i % 2=1:=by omega
 rcases h2 with h2|h2 <;> rw [h2] <;> rfl
theorem alg_both.reads (g : Nat) (U : List (List Int)) (N : List Int) (v : Adr) (a b : Int) (w : World) (L : Logic U N) (hV : View w g U N v) (ia : In U a) (ib : In U b) :
 Calls Try.prog 138 #[.pointer (some ⟨g,0,none⟩),.int .i64 a,.int .i64 b] w fun e w'=>e= .returned (.bool (bothB U N a b))∧Drawn0 w w':=by
 have HV:=zqm hV
 have HLg:=zqm L
 have Ia:=zqm ia
 have Ib:=zqm ib
 clear hV L ia ib
 unfold bothB
 obtain⟨p,hp⟩: ∃p,withB U N a b=p:=⟨_,rfl⟩
 obtain⟨q,hq⟩: ∃q,withB U N b a=q:=⟨_,rfl⟩
 have HP:=zqm hp
 have HQ:=zqm hq
 rw [hp,hq]
 clear hp hq
 cases p with
 |false=>
  go_enter Try.func138,Try.ntmps138
  go_wp2_with (go_at_call 150;(with_reducible refine(alg_with.reads g U N v a b _ HLg.out ?s1 Ia.out Ib.out).mono ?_);(case s1=>repeat(first|exact HV.out|apply View.drewN));rintro e w' ⟨he,⟨⟨nd,rfl⟩⟩⟩;rw [HP.out] at he;subst he)
  go_ret
  exact⟨by first|rfl|simp,⟨⟨_,rfl⟩⟩⟩
 |true=>
  go_enter Try.func138,Try.ntmps138
  go_wp2_with (first|(go_at_call 150;(with_reducible refine(alg_with.reads g U N v a b _ HLg.out ?s1 Ia.out Ib.out).mono ?_);(case s1=>repeat(first|exact HV.out|apply View.drewN));rintro e w' ⟨he,⟨⟨nd,rfl⟩⟩⟩;rw [HP.out] at he;subst he)|(go_at_call 150;(with_reducible refine(alg_with.reads g U N v b a _ HLg.out ?s1 Ib.out Ia.out).mono ?_);(case s1=>repeat(first|exact HV.out|apply View.drewN));rintro e w' ⟨he,⟨⟨nd2,rfl⟩⟩⟩;rw [HQ.out] at he;subst he))
  go_ret
  exact⟨by first|rfl|simp,⟨⟨_,rfl⟩⟩⟩
end Go.Proofs.Ytcbjpdaogicibaa.Print
end
section
namespace Go.Proofs.Ytcbjpdaogicibaa.Print
open Go.RowKit Go.Proofs.YtcbjpdaogicibaaW.PrintWords Go.Proofs.YtcbjpdaogicibaaW.PrintLast Go.Proofs.YtcbjpdaogicibaaW.PrintMore
def impl_common.l0 : Nat → Int → Int → List Int → Int → Int → Option (Int)
 | 0, _, _, _, _, _ => none
 | k + 1, x1, x5, x12, x13, x14 => if x14 < x13 then (if 0 ≤ x14 then (if x14 < (x12.length : Int) then ((impl_has.f x1 x14).bind fun t531 => (if t531 = true then (impl_common.l0 k x1 (Go.bits .and .i64 x5 (rd x12 x14)) x12 x13 (wrap64 (x14 + 1))) else (impl_common.l0 k x1 x5 x12 x13 (wrap64 (x14 + 1))))) else (none)) else (none)) else (some x5)
def impl_common.f (k : Nat) (l0 : List Int) (a1 : Int) : Option (Int) := impl_common.l0 k a1 (wrap64 ((shl .i64 1 (l0.length : Int)) - 1)) l0 (l0.length : Int) 0
set_option maxHeartbeats 8000000 in
set_option maxRecDepth 100000 in
theorem impl_common.calls (k : Nat) (A0 : Option Addr) (c0 : Nat) (l0 : List Int) (a1 : Int) (r : Int) (w : World) (hr0 : Kd.C (Kd.int .i64) w A0 l0.length l0) (hc0 : l0.length ≤ c0) (h : impl_common.f k l0 a1 = some r) :
  Calls Try.prog 84 #[.slice A0 l0.length c0, .int .i64 a1] w fun e w' => e = .returned (.int .i64 r) ∧ Drawn0 w w' := by
 have b3:=zqm hr0;have b9:=zqm hc0;clear hr0 hc0;have H:(impl_common.l0 k a1 (wrap64 ((shl .i64 1 (l0.length:Int)) - 1)) l0 (l0.length:Int) 0)=some r:=h;clear h;obtain⟨a2,a5⟩: ∃j_:Int,(shl .i64 1 (l0.length:Int))=j_:=⟨_,rfl⟩;(replace H:(impl_common.l0 k a1 (wrap64 ((a2) - 1)) l0 (l0.length:Int) 0)=some r:=by first|(rw [a5] at H;exact H)|(simp only [a5] at H ⊢;exact H));have a7:(IntKind.i64.wrap (1*2 ^ min (l0.length:Int).toNat 64))=a2:=a5;have hji3z:(l0.length:Int)≤64→(IntKind.i64.wrap (1*2 ^ (l0.length:Int).toNat))=a2:=shl_small a5;have hji3p:(IntKind.i64.wrap (1*2 ^ min l0.length 64))=a2:=a7;have hji3q:(l0.length:Int)≤64→(IntKind.i64.wrap (1*2 ^ l0.length))=a2:=hji3z;(have hji3r:(IntKind.i64.wrap (2 ^ min l0.length 64))=a2:=by have h_:=hji3p;rw [Int.one_mul] at h_;exact h_);(have hji3s:(l0.length:Int)≤64→(IntKind.i64.wrap (2 ^ l0.length))=a2:=fun hle_=>by have h_:=hji3q hle_;rw [Int.one_mul] at h_;exact h_);(have hji3u:(IntKind.i64.wrap (2 ^ min (l0.length:Int).toNat 64))=a2:=by have h_:=a7;rw [Int.one_mul] at h_;exact h_);(have hji3v:(l0.length:Int)≤64→(IntKind.i64.wrap (2 ^ (l0.length:Int).toNat))=a2:=fun hle_=>by have h_:=hji3z hle_;rw [Int.one_mul] at h_;exact h_);have hji3y:(wrap64 (1*2 ^ min (l0.length:Int).toNat 64))=a2:=(i64_w _).symm.trans a7;have hji3x:(l0.length:Int)≤64→(wrap64 (1*2 ^ (l0.length:Int).toNat))=a2:=fun h_=>(i64_w _).symm.trans (hji3z h_);have H':=zqm H;clear H
 go_enter Try.func84,Try.ntmps84
 go_wp2
 go_loopg [5,14] k (fun kq v5 b6 w'=> ∃(a6:Int) (a0:Int),v5= .int .i64 a6∧b6= .int .i64 a0∧Aside0 (impl_common.l0 kq a1 a6 l0 (l0.length:Int) a0=some r)∧Aside0 (kq≤k)∧Drawn0 w w')
 case atStart=>exact⟨(wrap64 ((a2) - 1)),(0),zq223,zq7,H',⟨Nat.le_refl _⟩,zq12⟩
 case round=>
  clear H';obtain⟨a6,a0,rfl,rfl,HA,a9,⟨m1,rfl⟩⟩:=hrel
  cases gk with
  |zero=>exact absurd HA.out (by simp [impl_common.l0])
  |succ k1=>
   have H:=HA.out;clear HA;simp only [impl_common.l0] at H
   by_cases c4:a0<(l0.length:Int)
   ·rw [if_pos c4] at H;have b4:decide (a0<(l0.length:Int))=true:=decide_eq_true c4;clear c4
    by_cases c5:0≤a0
    ·rw [if_pos c5] at H;have b7:decide (0≤a0)=true:=decide_eq_true c5;clear c5
     by_cases c6:a0<(l0.length:Int)
     ·rw [if_pos c6] at H;have b8:decide (a0<(l0.length:Int))=true:=decide_eq_true c6;clear c6;replace H:=Option.bind_eq_some_iff.mp H;obtain⟨b5,b2,H⟩:=H;(try dsimp only at H);have A7:=zqm b2;clear b2
      by_cases c8:b5=true
      ·subst c8;rw [if_pos rfl] at H;have H':=zqm H;clear H;have a3:0≤(a0:Int):=zqo;have a4:a0<(l0.length:Int):=zqo;obtain⟨b1,a8,b0⟩:=Kd.at_int b3.out a0 a3 a4
       cases a8
       replace a3:=eq_true a3;replace a4:=eq_true a4
       go_wp2_with (first|((with_reducible refine gate_callee (f:=88) rfl ?_);refine goesL_ (some 21) rfl rfl Try.func88 zqk rfl #[.int .i64 a1,.int .i64 a0] rfl zq1 ?_;(with_reducible refine(impl_has.calls a1 a0 true _ A7.out).mono ?_);rintro e w' ⟨rfl,⟨nd,rfl⟩⟩;refine⟨_,rfl,?_⟩))
       go_roundg k1
       (case measure=>have:=a9.out;omega);case rel=>exact⟨(Go.bits .and .i64 a6 (rd l0 a0)),(wrap64 (a0+1)),zq7,zq7,H',⟨by have:=a9.out;omega⟩,zq12⟩
      ·replace c8:=Bool.eq_false_iff.mpr c8;subst c8;rw [if_neg (show¬(false=true) by decide)] at H;have H':=zqm H;clear H;have a3:0≤(a0:Int):=zqo;have a4:a0<(l0.length:Int):=zqo;obtain⟨b1,a8,b0⟩:=Kd.at_int b3.out a0 a3 a4
       cases a8
       replace a3:=eq_true a3;replace a4:=eq_true a4
       go_wp2_with (first|((with_reducible refine gate_callee (f:=88) rfl ?_);refine goesL_ (some 21) rfl rfl Try.func88 zqk rfl #[.int .i64 a1,.int .i64 a0] rfl zq1 ?_;(with_reducible refine(impl_has.calls a1 a0 false _ A7.out).mono ?_);rintro e w' ⟨rfl,⟨nd,rfl⟩⟩;refine⟨_,rfl,?_⟩))
       go_roundg k1
       (case measure=>have:=a9.out;omega);case rel=>exact⟨(a6),(wrap64 (a0+1)),zq7,zq7,H',⟨by have:=a9.out;omega⟩,zq12⟩
     ·rw [if_neg c6] at H;exact absurd H (by simp)
    ·rw [if_neg c5] at H;exact absurd H (by simp)
   ·rw [if_neg c4] at H;have b4:decide (a0<(l0.length:Int))=false:=decide_eq_false c4;clear c4;obtain rfl:=Option.some.inj H
    go_wp2
    go_ret
    exact⟨zq223,zq12⟩
end Go.Proofs.Ytcbjpdaogicibaa.Print
end
section
namespace Go.Proofs.Ytcbjpdaogicibaa.Print
open Go.RowKit Go.Proofs.YtcbjpdaogicibaaW.PrintWords Go.Proofs.YtcbjpdaogicibaaW.PrintLast Go.Proofs.YtcbjpdaogicibaaW.PrintMore
open Oml
def agA (U : List (List Int)) (N : List Int) (a : Nat) : Nat := setB U.length fun b => bothB U N a b
def agF (U : List (List Int)) (N : List Int) : List Int := (List.range U.length).map fun (a : Nat) => ((agA U N a : Nat) : Int)
theorem agF_length (U : List (List Int)) (N : List Int) : (agF U N).length = U.length := by simp [agF]
theorem agL_at (U : List (List Int)) (N : List Int) (s a : Nat) (h : a < U.length) : at1 (agL U N s) a = ((agN U N s a : Nat) : Int) := by simp [agL, at1, h]
theorem agF_at (U : List (List Int)) (N : List Int) (a : Nat) (h : a < U.length) : at1 (agF U N) a = ((agA U N a : Nat) : Int) := by simp [agF, at1, h]
theorem agL_zero (U : List (List Int)) (N : List Int) : agL U N 0 = List.replicate U.length 0 := by
 refine List.ext_getElem (by simp [agL]) fun i h1 h2 => ?_
 simp [agL, agN, setB_none]
theorem pair_lt {n a b : Nat} (ha : a < n) (hb : b < n) : a * n + b < n * n := by
 have : (a + 1) * n ≤ n * n := Nat.mul_le_mul_right _ ha
 rw [Nat.succ_mul] at this; omega
theorem agL_all (U : List (List Int)) (N : List Int) : agL U N (U.length * U.length) = agF U N := by
 unfold agL agF
 refine List.map_congr_left fun a ha=>?_
 congr 1
 unfold agN agA
 refine setB_congr fun b hb=>?_
 rw [decide_eq_true (pair_lt (by simpa using ha) hb),Bool.true_and]
theorem pair_inj {n a b c d : Nat} (hb : b < n) (hd : d < n) (h : a * n + b = c * n + d) : a = c ∧ b = d := by
 have h1:(a*n+b) / n=a:=by rw [Nat.add_comm,Nat.mul_comm,Nat.add_mul_div_left _ _ (by omega),Nat.div_eq_of_lt hb];omega
 have h2:(c*n+d) / n=c:=by rw [Nat.add_comm,Nat.mul_comm,Nat.add_mul_div_left _ _ (by omega),Nat.div_eq_of_lt hd];omega
 have h3:a=c:=by rw [← h1,h,h2]
 subst h3
 exact⟨rfl,by omega⟩
theorem agN_step (U : List (List Int)) (N : List Int) {a b c : Nat} (hb : b < U.length) : agN U N (a * U.length + b + 1) c = if c = a ∧ bothB U N a b = true then agN U N (a * U.length + b) c ||| 2 ^ b else agN U N (a * U.length + b) c := by
 unfold agN
 split
 ·rename_i h
  obtain⟨rfl,h⟩:=h
  rw [setB_one hb,setB_or]
  refine setB_congr fun d hd=>?_
  by_cases e:d=b
  ·subst e;simp [h]
  ·rw [show (d==b)=false by simpa using e,Bool.or_false]
   congr 1
   rw [decide_eq_decide];omega
 ·rename_i h
  refine setB_congr fun d hd=>?_
  by_cases e:c*U.length+d=a*U.length+b
  ·obtain⟨rfl,rfl⟩:=pair_inj hd hb e
   have:bothB U N c d=false:=by
    cases h2:bothB U N c d with
    |false=>rfl
    |true=>exact absurd ⟨rfl,h2⟩ h
   rw [this];simp
  ·congr 1
   rw [decide_eq_decide];omega
theorem agL_step (U : List (List Int)) (N : List Int) {a b : Nat} (ha : a < U.length) (hb : b < U.length) :
 agL U N (a*U.length+b+1)=if bothB U N a b=true then(agL U N (a*U.length+b)).set a (((agN U N (a*U.length+b) a|||2 ^ b:Nat)):Int) else agL U N (a*U.length+b):=by
 cases hB:bothB U N a b with
 |false=>
  rw [if_neg (by simp)]
  refine List.ext_getElem (by simp [agL]) fun i h1 h2=>?_
  simp [agL,agN_step U N hb,hB]
 |true=>
  rw [if_pos rfl]
  refine List.ext_getElem (by simp [agL]) fun i h1 h2=>?_
  by_cases e:i=a
  ·subst e;simp [agL,agN_step U N hb,hB]
  ·simp [agL,agN_step U N hb,List.getElem_set,e,show¬(a=i) from fun h=>e h.symm]
def comS (U : List (List Int)) (N : List Int) (s : Nat) : Nat := setB U.length fun b => allN U.length fun a => !(s.testBit a) || bothB U N a b
def comN (U : List (List Int)) (N : List Int) (s i : Nat) : Nat := setB U.length fun b => allN i fun a => !(s.testBit a) || bothB U N a b
theorem allN_succ (n : Nat) (p : Nat → Bool) : allN (n + 1) p = (allN n p && p n) := by simp [allN, List.range_succ]
theorem comN_succ (U : List (List Int)) (N : List Int) (s i : Nat) : comN U N s (i + 1) = if s.testBit i = true then comN U N s i &&& agA U N i else comN U N s i := by
 unfold comN agA
 cases hb:s.testBit i with
 |true=>rw [if_pos rfl,setB_and];exact setB_congr fun b _=>by rw [allN_succ,hb];simp
 |false=>rw [if_neg (by simp)];exact setB_congr fun b _=>by rw [allN_succ,hb];simp
theorem comN_small {U : List (List Int)} (N : List Int) (hn : U.length ≤ 12) (s i : Nat) : comN U N s i < 1099511627776 := setB_small (by omega) _
theorem agA_small {U : List (List Int)} (N : List Int) (hn : U.length ≤ 12) (i : Nat) : agA U N i < 1099511627776 := setB_small (by omega) _
theorem com_start {U : List (List Int)} (N : List Int) (hn : U.length ≤ 12) (s : Nat) : wrap64 (((2 ^ U.length : Nat) : Int) - 1) = ((comN U N s 0 : Nat) : Int) := by
 have h1:=two_pow_le (show U.length≤40 by omega)
 have h1':=Nat.one_le_two_pow (n:=U.length)
 have h3:comN U N s 0=2 ^ U.length - 1:=by rw [setB_all];exact setB_congr fun i _=>rfl
 rw [h3]
 generalize 2 ^ U.length=x at h1 h1' ⊢
 unfold wrap64;omega
theorem impl_common.ev {U : List (List Int)} (N : List Int) (hn : U.length ≤ 12) {s : Nat} (hs : s < 4611686018427387904) : Ev (fun k => impl_common.f k (agF U N) (s : Int)) ((comS U N s : Nat) : Int) := by
 unfold impl_common.f
 rw [agF_length,shl_nat (by omega)]
 rw [com_start N hn s]
 refine Ev.loop (g:=fun k x i=>impl_common.l0 k (s:Int) x (agF U N) (U.length:Int) i) U.length (fun i x=>x=((comN U N s i:Nat):Int)) (by omega) (fun x h=>?_) (fun i x hi h=>?_) _ rfl
 ·subst h
  refine Ev.succ ?_
  simp only [impl_common.l0]
  repeat(with_reducible first|refine Ev.ip ?_|refine Ev.iq ?_)
  exact Ev.now _
 ·subst h
  refine⟨_,rfl,fun K=>Ev.succ ?_⟩
  simp only [impl_common.l0,agF_length,rd_nat,agF_at U N i hi]
  repeat(with_reducible first|refine Ev.ip ?_|refine Ev.iq ?_)
  refine Ev.pbind (has_nat s hs (by omega)) ?_
  rw [comN_succ] at K
  cases hb:s.testBit i with
  |true=>
   rw [hb,if_pos rfl] at K
   repeat(with_reducible first|refine Ev.ip ?_|refine Ev.iq ?_)
   rw [band_nat (comN U N s i) (agA U N i) (by have:=comN_small N hn s i;omega) (by have:=agA_small N hn i;omega)]
   exact K
  |false=>
   rw [hb,if_neg (by simp)] at K
   repeat(with_reducible first|refine Ev.ip ?_|refine Ev.iq ?_)
   exact K
theorem com_calls {U : List (List Int)} (N : List Int) (hn : U.length ≤ 12) (s : Nat) (hs : s < 4611686018427387904) (A : Option Addr) (c : Nat) (w : World) (hr : Kd.C (Kd.int .i64) w A U.length (agF U N)) (hc : U.length ≤ c) :
 Calls Try.prog 84 #[.slice A U.length c,.int .i64 (s:Int)] w fun e w'=>e= .returned (.int .i64 ((comS U N s:Nat):Int))∧Drawn0 w w':=by
 obtain⟨K,hK⟩:=(impl_common.ev N hn hs).rounds
 have:=impl_common.calls K A c (agF U N) (s:Int) _ w (by rw [agF_length];exact hr) (by rw [agF_length];exact hc) hK
 rwa [agF_length] at this
def alg_agreeing_1.T2 : Bool × List (List Nat × List Nat) := (true, [([], []), ([], []), ([0, 1], [0, 1]), ([2], [2]), ([], []), ([4], [4]), ([3, 5], [3, 5]), ([0, 1, 0, 1, 2, 3, 4, 5, 6], [0, 1]), ([7, 6, 0, 1, 2, 3, 4, 5, 6], [6, 7])])
def alg_agreeing_1.B2 : List Nat := [0, 0, 3, 7, 0, 16, 63, 127, 255]
theorem alg_agreeing_1.tab2 : rtab .any (opsOf Try.f137 2) = alg_agreeing_1.T2 := by kernel_rfl
theorem alg_agreeing_1.bits2 : waitsOk alg_agreeing_1.T2.2 alg_agreeing_1.B2 = true := by kernel_rfl
set_option maxHeartbeats 1000000 in
set_option maxRecDepth 100000 in
theorem agr_c1 (g : Nat) (U : List (List Int)) (N : List Int) (v : Adr) (w1 w : World) (L : Logic U N) (hV : View w1 g U N v) (gG gO gr c a b : Nat) (ha : a < U.length) (hb : b < U.length) (hJ : AgJ w1 gG g gO gr c U N (a * U.length + b) w) :
 Calls Try.prog 137 #[.int .i64 a,.int .i64 b,.pointer (some ⟨gG,0,none⟩),.pointer (some ⟨gO,0,none⟩)] w fun e w'=>e= .returned (.bool true)∧AgJ w1 gG g gO gr c U N (a*U.length+b+1) w':=by
 have HV:=zqm hV
 have HLg:=zqm L
 have HSM:=zqm L.small
 have HA:=zqm ha
 have HB:=zqm hb
 have HJ:=zqm hJ
 have HIA:=zqm (show In U (a:Int) from ⟨by omega,by omega⟩)
 have HIB:=zqm (show In U (b:Int) from ⟨by omega,by omega⟩)
 have HST:=zqm (agL_step U N ha hb)
 have x0:w.cell? ⟨gG,0,none⟩=some (.pointer (some ⟨g,0,none⟩)):=(blk_cell hJ.hG 0).trans rfl
 cases hB:bothB U N a b with
 |false=>
  have HBB:=zqm hB
  have HEQ:=zqm (show agL U N (a*U.length+b+1)=agL U N (a*U.length+b) by rw [HST.out,if_neg (by rw [hB];simp)])
  clear hV L ha hb hJ hB HST
  go_enter Try.func137,Try.ntmps137
  go_wp2_with (go_at_call 138;(with_reducible refine(alg_both.reads g U N v a b _ HLg.out ?s1 HIA.out HIB.out).mono ?_);(case s1=>exact HV.out.below HJ.out.hb);rintro e w' ⟨he,⟨⟨nd,rfl⟩⟩⟩;rw [HBB.out] at he;subst he;have HJ2:=zqm (HJ.out.drewN nd);clear HJ)
  go_ret
  have h:=HJ2.out
  exact⟨rfl,h.hb,h.hG,h.hO,by rw [HEQ.out];exact h.hR,h.hg,h.ho⟩
 |true=>
  have HBB:=zqm hB
  obtain⟨sv,hsv⟩: ∃sv:Int,sv=((agN U N (a*U.length+b) a:Nat):Int):=⟨_,rfl⟩
  obtain⟨tv,htv⟩: ∃tv:Int,tv=((agN U N (a*U.length+b) a|||2 ^ b:Nat):Int):=⟨_,rfl⟩
  obtain⟨pv,hpv⟩: ∃pv:Int,wrap64 (2 ^ min b 64)=pv:=⟨_,rfl⟩
  have e2_:Go.bits .or .i64 sv pv=tv:=by
   have h1:=setB_small (show U.length≤40 by have:=L.small;omega) (fun d=>decide (a*U.length+d<a*U.length+b) && bothB U N a d)
   have h2:=two_pow_le (show b≤40 by have:=L.small;omega)
   rw [hsv,htv,← hpv,Nat.min_eq_left (show b≤64 by have:=L.small;omega),← i64_w,wshl_nat (by have:=L.small;omega)]
   exact bor_nat _ _ (by unfold agN;omega) (by omega)
  have e1_:=hpv
  have HSET:=zqm (show agL U N (a*U.length+b+1)=(agL U N (a*U.length+b)).set a tv by rw [HST.out,if_pos hB,htv])
  have HCELL:=zqm (show∀W,AgJ w1 gG g gO gr c U N (a*U.length+b) W→W.cell? ⟨gr,a,none⟩=some (.int .i64 sv) from fun W h=>by
   have h2:=(Kd.R_celln 0 h.hR (a:Int) (by omega) (by omega)).1
   rw [Int.toNat_natCast] at h2
   rw [h2,hsv,← agL_at U N _ a ha]
   rfl)
  have HFREE:=zqm (show∀W,AgJ w1 gG g gO gr c U N (a*U.length+b) W→W.frozen? ⟨gr,a,none⟩=false from fun W h=>by
   have h2:=(Kd.R_celln 0 h.hR (a:Int) (by omega) (by omega)).2
   rwa [Int.toNat_natCast] at h2)
  have HNE1:=zqm (show∀W,AgJ w1 gG g gO gr c U N (a*U.length+b) W→some gG≠some gr from fun W h=>Kd.R_ne h.hR h.hG (by decide))
  have HNE2:=zqm (show∀W,AgJ w1 gG g gO gr c U N (a*U.length+b) W→some gO≠some gr from fun W h=>Kd.R_ne h.hR h.hO (by decide))
  have p1:(a<U.length)=True:=eq_true ha
  have p2:(0≤(a:Int))=True:=eq_true (by omega)
  have p3:((a:Int)<(U.length:Int))=True:=eq_true (by omega)
  clear hV L ha hb hJ hB HST hsv htv hpv
  go_enter Try.func137,Try.ntmps137
  go_wp2_with (go_at_call 138;(with_reducible refine(alg_both.reads g U N v a b _ HLg.out ?s1 HIA.out HIB.out).mono ?_);(case s1=>exact HV.out.below HJ.out.hb);rintro e w' ⟨he,⟨⟨nd,rfl⟩⟩⟩;rw [HBB.out] at he;subst he;have HJ2:=zqm (HJ.out.drewN nd);clear HJ x0)
  refine start_ (n:=9) (S:=(fun w'=>w'.cell? ⟨gO,0,none⟩=some (.slice (some ⟨gr,0,none⟩) U.length c)∧w'.cell? ⟨gr,a,none⟩=some (.int .i64 sv))) (ds:= [8]) (zqb 9 0) zqk rfl rfl ⟨(blk_cell (HJ2.out.below (below_drew1 (Below.refl _ _))).hO 0).trans rfl,HCELL.out _ (HJ2.out.below (below_drew1 (Below.refl _ _)))⟩ (fun hHeld=>?_)
  refine with_tabW alg_agreeing_1.tab2 alg_agreeing_1.bits2 (fun HT_ HW_=>?_)
  have HJ3:=zqm (HJ2.out.below (below_drew1 (Below.refl _ _)))
  clear HJ2
  generalize (World.drewN w nd).drew=wd at HJ3 hHeld ⊢
  refine zqw 0 11 (zqb 9 1) HT_ HW_ hHeld ?_
  refine zqp 1 12 (zqb 9 3) HT_ ?_
  refine zqp 2 13 (zqb 9 7) HT_ ?_
  refine zqw 3 14 (zqb 9 15) HT_ HW_ hHeld ?_
  refine zqp 4 15 (zqb 9 31) HT_ ?_
  refine zqp 5 16 (zqb 9 63) HT_ ?_
  refine zqp 6 17 (zqb 9 127) HT_ ?_
  refine zqp 7 18 (zqb 9 255) HT_ ?_
  have hs_:=HCELL.out _ HJ3.out
  have hf_:=HFREE.out _ HJ3.out
  refine last_ (i:=8) (N:=none) (zqb 9 511) rfl rfl (one_of HT_.out zqk) (by decide) (fun K hK=>?_)
  refine skip_ (w1:=wd.setCell ⟨gr,a,none⟩ (.int .i64 tv)) (by rfl) rfl ?_ ?_
  ·go_simp
  refine hK.out _ _ ?_
  clear hK K
  have HP:=Kd.R_putg HJ3.out.hR (a:Int) tv
  rw [Int.toNat_natCast] at HP
  have HJ7:=zqm (show AgJ w1 gG g gO gr c U N (a*U.length+b+1) (wd.setCell ⟨gr,a,none⟩ (.int .i64 tv)) from ⟨below_set HJ3.out.hb (Kd.R_base HJ3.out.hR gr rfl),blk_grown HJ3.out.hG HP.2 (HNE1.out _ HJ3.out),blk_grown HJ3.out.hO HP.2 (HNE2.out _ HJ3.out),by rw [HSET.out];exact HP.1,HJ3.out.hg,HJ3.out.ho⟩)
  generalize wd.setCell ⟨gr,a,none⟩ (.int .i64 tv)=w7 at HJ7 ⊢
  clear hs_ hf_ HJ3 HP
  refine done_ (done_of HT_.out zqk) ?_
  go_wp2
  go_ret
  exact⟨rfl,by repeat(first|exact HJ7.out|apply AgJ.drewN)⟩
set_option maxHeartbeats 1000000 in
set_option maxRecDepth 100000 in
theorem agreeing_calls (g : Nat) (U : List (List Int)) (N : List Int) (v : Adr) (w : World) (L : Logic U N) (hV : View w g U N v) :
 Calls Try.prog 83 #[.pointer (some ⟨g,0,none⟩)] w fun e w'=> ∃A c,e= .returned (.slice A U.length c)∧Kd.R (Kd.int .i64) 3 w' w.heap.size (fun _=>True) (.slice A U.length c) (agF U N)∧Below w.heap.size w w':=by
 have hu70:=Try.underlying74
 have HV:=zqm hV
 have HLg:=zqm L
 have HSM:=zqm L.small
 have b0_:decide (0≤(U.length:Int))=true:=decide_eq_true (by omega)
 clear hV L
 go_enter Try.func83,Try.ntmps83
 go_wp2_with (first|((with_reducible refine gate_dst (N:=1) rfl ?_);refine box_event ?hg (N:=1) ?hd (cs:= #[.pointer (some ⟨g,0,none⟩)]) (t:=67) ?hr ?_;(case hd=>rfl);(case hg=>rfl);(case hr=> exact zq17);intro gG hg_ w1 hbox hb;have HX:=zqm hbox;have HGG:=zqm hg_;have HB1:=zqm hb;have x0:w1.cell? ⟨gG,0,none⟩=some (.pointer (some ⟨g,0,none⟩)):=(blk_cell hbox 0).trans rfl;have hf0:=(HV.out.below hb).f0;clear hbox hb hg_)|((with_reducible refine gate_dst (N:=9) rfl ?_);refine Kd.R_make (Kd.int .i64) _ 3 rfl (N:=9) rfl 24 _ _ rfl (U.length:Int) rfl rfl Try.underlying24 (.int .i64 0) 8 infoInt rfl (by decide) (by omega) 0 (ok:=fun _=>True) (okp:=fun _=>True) rfl (fun _ hk=>hk) trivial (by omega) (by rw [Int.toNat_natCast];have:=HSM.out;omega) (Below.refl _ _) (Nat.le_refl _) ?_;intro vr w2 ho hb hg_ hat_;rw [Int.toNat_natCast] at ho;obtain⟨b_,e_,hl_⟩:=hat_;have hs_:=Kd.R_slice ho;rw [List.length_replicate] at hs_;obtain⟨Ar,cr,rfl⟩:=hs_;obtain⟨gr,hAr⟩: ∃gr,Ar=some ⟨gr,0,none⟩:=(by obtain⟨gr,cap,e2,_⟩:=Kd.R_form ho (by rw [List.length_replicate];exact HLg.out.pos);injection e2 with e3;exact⟨gr,e3⟩);subst hAr;have HO2:=zqm (Kd.R_lower (Kd.R_mono (Kd.R_tight rfl ho) (fun k hk=>(Option.some.inj hk:k=gr))) (below_size HB1.out));have HB2:=zqm (below_step HB1.out hb);have HX2:=zqm (blk_below HX.out hb);have x0':(w2.alloc (.cells #[.slice (some ⟨gr,0,none⟩) U.length cr] 24)).cell? ⟨gG,0,none⟩=some (.pointer (some ⟨g,0,none⟩)):=(blk_cell (blk_alloc HX2.out _) 0).trans rfl;clear ho hb hg_ x0 hf0 e_ hl_)|(go_at_call 71;(with_reducible refine(every_calls g U N v _ HSM.out 137 _ #[.pointer (some ⟨gG,0,none⟩),.pointer (some ⟨w2.heap.size,0,none⟩)] Try.func137 zqk rfl (fun _ _=>true) (AgJ w gG g w2.heap.size gr cr U N) ?tV ?tD ?t0 ?tS).mono ?_);(case tV=>exact fun i W h=>HV.out.below h.hb);(case tD=>exact fun i W n h=>h.drewN n);(case t0=>exact⟨below_alloc HB2.out _,blk_alloc HX2.out _,(MapKept.heap_alloc w2 _).1,(by rw [agL_zero];exact Kd.R_alloc HO2.out _),(by rw [HGG.out];exact Nat.le_refl _),below_size HB2.out⟩);(case tS=>exact fun a b ha hb W h=>agr_c1 g U N v w W HLg.out HV.out gG w2.heap.size gr cr a b ha hb h);rintro e w3 ⟨rfl,i,hj,hi⟩;have hi2:=hi (allN_iff.2 fun _ _=>allN_iff.2 fun _ _=>rfl);subst hi2;have HJ:=zqm hj;have y0:w3.cell? ⟨w2.heap.size,0,none⟩=some (.slice (some ⟨gr,0,none⟩) U.length cr):=(blk_cell hj.hO 0).trans rfl;clear hj hi x0'))
 go_ret
 have h:=HJ.out
 have hR:=h.hR
 rw [agL_all] at hR
 exact⟨_,_,rfl,Kd.R_mono hR (fun _ _=>trivial),h.hb⟩
def blkP (U : List (List Int)) (N : List Int) (s : Nat) : Bool := decide (1 ≤ s) && (comS U N s == s)
def blkN (U : List (List Int)) (N : List Int) : List Nat := (List.range (2 ^ U.length)).filter (blkP U N)
def blkL (U : List (List Int)) (N : List Int) : List Int := filI (2 ^ U.length) (blkP U N)
theorem blkL_eq (U : List (List Int)) (N : List Int) : blkL U N = (blkN U N).map fun (s : Nat) => (s : Int) := rfl
theorem filI_one (U : List (List Int)) (N : List Int) : filI 1 (blkP U N) = [] := by
 rw [filI_succ, filI_zero, if_neg (by simp [blkP])]
def impl_BlocksOf.f (l0_0 : List (List Int)) (l0_1 : List Int) : Option (List Int) := some (if logicB l0_0 l0_1 = true then blkL l0_0 l0_1 else [])
set_option maxHeartbeats 4000000 in
set_option maxRecDepth 100000 in
theorem impl_BlocksOf.calls (A0_0 : Option Addr) (c0_0 : Nat) (l0_0 : List (List Int)) (A0_1 : Option Addr) (c0_1 : Nat) (l0_1 : List Int) (r : List Int) (w : World) (hr0_0 : Kd.C (Kd.slice 3 (Kd.int .i64)) w A0_0 l0_0.length l0_0) (hc0_0 : l0_0.length ≤ c0_0) (hr0_1 : Kd.C (Kd.int .i64) w A0_1 l0_1.length l0_1) (hc0_1 : l0_1.length ≤ c0_1) (h : impl_BlocksOf.f l0_0 l0_1 = some r) :
 Calls Try.prog 20 #[.agg #[.slice A0_0 l0_0.length c0_0,.slice A0_1 l0_1.length c0_1]] w fun e w'=> ∃v0_:Value,e= .returned (v0_)∧Kd.R (Kd.int .i64) 3 w' w.heap.size (fun _=>True) v0_ r∧Below w.heap.size w w':=by
 obtain⟨k,hF⟩:=told_facts l0_0
 have hu30:=Try.underlying26
 have hu70:=Try.underlying74
 have HF:=zqm hF
 have HR0:=zqm hr0_0
 have HC0:=zqm hc0_0
 have HR1:=zqm hr0_1
 have HC1:=zqm hc0_1
 simp only [impl_BlocksOf.f,Option.some.injEq] at h
 clear hr0_0 hc0_0 hr0_1 hc0_1 hF
 cases hL:logicB l0_0 l0_1 with
 |false=>
  rw [hL] at h
  have hr_: []=r:=by simpa using h
  subst hr_
  have HLB:=zqm hL
  clear h hL
  go_enter Try.func20,Try.ntmps20
  go_wp2_with (first|((with_reducible refine gate_dst (N:=1) rfl ?_);refine box_event ?hg (N:=1) ?hd (cs:= #[.slice A0_0 l0_0.length c0_0,.slice A0_1 l0_1.length c0_1]) (t:=26) ?hr ?_;(case hd=>rfl);(case hg=>rfl);(case hr=> exact zq17);intro gb hg_ w1 hbox hb;have HB:=zqm hb;have hx0:w1.cell? ⟨gb,0,none⟩=some (.slice A0_0 l0_0.length c0_0):=(blk_cell hbox 0).trans rfl;have hx1:w1.cell? ⟨gb,1,none⟩=some (.slice A0_1 l0_1.length c0_1):=(blk_cell hbox 1).trans rfl;have HX:=zqm hbox;clear hbox hb hg_)|(go_at_call 70;(with_reducible refine(told_n k _ _ l0_0 _ _ l0_1 _ ?s1 ?s2 ?s3 ?s4 HF.out HLB.out).mono ?_);(case s1=> exact zq61);(case s2=>exact HC0.out);(case s3=> exact zq64);(case s4=>exact HC1.out);rintro e w2 ⟨rfl,hb⟩;have HB2:=zqm (below_step HB.out hb);clear hb hx0 hx1 HX HB))
  go_ret
  exact⟨_,rfl,Kd.R_nil _ _ _ _ _,zq152⟩
 |true=>
  rw [hL] at h
  have hr_:blkL l0_0 l0_1=r:=by simpa using h
  subst hr_
  have HLB:=zqm hL
  have HLg:=zqm (logicB_iff.1 hL)
  have HSM:=zqm (logicB_iff.1 hL).small
  obtain⟨M,hM⟩: ∃M:Nat,M=2 ^ l0_0.length:=⟨_,rfl⟩
  obtain⟨mv,hmv⟩: ∃mv:Int,mv=(M:Int):=⟨_,rfl⟩
  have hM1:1≤M:=by rw [hM];exact Nat.one_le_two_pow
  have hM2:M≤4096:=by rw [hM];exact Nat.pow_le_pow_right (by omega) (show l0_0.length≤12 from HSM.out)
  have e1_:wrap64 (2 ^ min l0_0.length 64)=mv:=by rw [Nat.min_eq_left (show l0_0.length≤64 by have:=HSM.out;omega),← i64_w,wshl_nat (by have:=HSM.out;omega),hmv,hM]
  have e2_:IntKind.i64.wrap (2 ^ min l0_0.length 64)=mv:=by rw [i64_w];exact e1_
  have HM:=zqm hM
  have HMV:=zqm hmv
  have HM1:=zqm hM1
  have HM2:=zqm hM2
  clear h hL hM hmv hM1 hM2
  go_enter Try.func20,Try.ntmps20
  go_wp2_with (first|((with_reducible refine gate_dst (N:=1) rfl ?_);refine box_event ?hg (N:=1) ?hd (cs:= #[.slice A0_0 l0_0.length c0_0,.slice A0_1 l0_1.length c0_1]) (t:=26) ?hr ?_;(case hd=>rfl);(case hg=>rfl);(case hr=> exact zq17);intro gb hg_ w1 hbox hb;have HB:=zqm hb;have hx0:w1.cell? ⟨gb,0,none⟩=some (.slice A0_0 l0_0.length c0_0):=(blk_cell hbox 0).trans rfl;have hx1:w1.cell? ⟨gb,1,none⟩=some (.slice A0_1 l0_1.length c0_1):=(blk_cell hbox 1).trans rfl;have HX:=zqm hbox;clear hbox hb hg_)|(go_at_call 70;(with_reducible refine(told_y k _ _ l0_0 _ _ l0_1 _ ?s1 ?s2 ?s3 ?s4 HF.out HLB.out).mono ?_);(case s1=> exact zq61);(case s2=>exact HC0.out);(case s3=> exact zq64);(case s4=>exact HC1.out);rintro e w2 ⟨g,v,rfl,hv,hge,hb⟩;have HB2:=zqm (below_step HB.out hb);have HV:=zqm hv;clear hv hge hb hx0 hx1 HX HB)|((with_reducible refine gate_dst (N:=11) rfl ?_);refine Kd.R_lit (Kd.int .i64) _ 3 ?hg (N:=11) ?hd (xs:=([]:List Int)) (inner:= []) (ok:=fun _=>True) (okp:=fun _=>True) ?hr ?hp (fun _ hk=>hk) trivial (Below.refl _ _) (Nat.le_refl _) (by simp) ?_;(case hd=>rfl);(case hg=>rfl);(case hr=> exact zq17);(case hp=>exact(Reps.none _ _));intro v0 w3 ho hb hg_ hnew_;clear hg_ hnew_;have HO3:=zqm (Kd.R_mono (Kd.R_bound ho) (fun k hk=>hk.2.2.1));have HB3:=zqm hb;have HV3:=zqm (HV.out.below hb);clear ho hb)|(go_at_call 83;(with_reducible refine(agreeing_calls g l0_0 l0_1 v _ HLg.out HV3.out).mono ?_);rintro e w4 ⟨Aa,ca,rfl,ho,hb⟩;have HA4:=zqm (Kd.R_lower (Kd.R_mono (Kd.R_bound ho) (fun k hk=>(⟨hk.2.1,hk.2.2.1⟩:w3.heap.size≤k∧k<w4.heap.size))) (below_size HB3.out));have HO4:=zqm (Kd.R_mono (Kd.R_below HO3.out hb) (fun k hk=>(Or.inl hk:k<w3.heap.size∨w4.heap.size≤k)));have HB4:=zqm (below_step HB3.out hb);have HV4:=zqm (HV3.out.below hb);have hf0:=HV4.out.f0;clear ho hb HO3 HV3 HB3))
  go_loopg [6,4] M (fun kq v6 v4 W=> ∃s:Nat,v6= .int .i64 s∧Aside0 (s+kq=M+1)∧Aside0 (1≤s)∧Aside0 (s≤M)∧Aside0 (Kd.R (Kd.int .i64) 3 W w2.heap.size (fun k=>k<w3.heap.size∨w4.heap.size≤k) v4 (filI s (blkP l0_0 l0_1)))∧Aside0 (Kd.R (Kd.int .i64) 3 W w2.heap.size (fun k=>w3.heap.size≤k∧k<w4.heap.size) (.slice Aa l0_0.length ca) (agF l0_0 l0_1))∧Aside0 (Below w2.heap.size w2 W)∧Aside0 (w4.heap.size≤W.heap.size))
  case atStart=>exact⟨1,by first|rfl|simp,⟨by have:=HM1.out;omega⟩,⟨by omega⟩,⟨HM1.out⟩,⟨by rw [filI_one];exact HO4.out⟩,HA4,HB4,⟨Nat.le_refl _⟩⟩
  case round=>
   clear hf0
   obtain⟨s,rfl,HK,HK1,HK2,HOr,HAr,HBr,HEr⟩:=hrel
   have hf0:=(HV.out.below HBr.out).f0
   cases gk with
   |zero=>exact absurd HK.out (by have:=HK2.out;omega)
   |succ kn=>
   by_cases hlt:s<M
   ·have hlt':decide ((s:Int)<mv)=true:=decide_eq_true (by rw [HMV.out];omega)
    have HLT:=zqm hlt
    have HC:=zqm (show Kd.C (Kd.int .i64) wr Aa l0_0.length (agF l0_0 l0_1)∧l0_0.length≤ca by have h:=Kd.R_reads' HAr.out;rw [agF_length] at h;exact⟨h.2.2,h.2.1⟩)
    clear hlt
    by_cases hc:comS l0_0 l0_1 s=s
    ·have HCS:=zqm (show ((comS l0_0 l0_1 s:Nat):Int)=(s:Int) by rw [hc])
     have HP:=zqm (show blkP l0_0 l0_1 s=true by unfold blkP;rw [hc,decide_eq_true HK1.out];simp)
     clear hc
     go_wp2_with (first|(go_at_call 84;(with_reducible refine(com_calls l0_1 HSM.out s zq241 Aa ca _ HC.out.1 HC.out.2).mono ?_);rintro e w' ⟨he,⟨⟨nd,rfl⟩⟩⟩;rw [HCS.out] at he;subst he;have HO5:=zqm (Kd.R_drewN HOr.out nd);have HA5:=zqm (Kd.R_drewN HAr.out nd);have HB5:=zqm (pw_below_drewN HBr.out nd);clear HOr HAr HBr HC hf0)|((with_reducible refine gate_builtin (b:= .append) (xs:= #[.tmp 29,.tmp 31]) rfl ?_);at_builtin;refine Kd.R_append (Kd.int .i64) (w0:=w2) w2.heap.size rfl (.tmp 29) (.tmp 31) 24 3 (.int .i64 0) 8 rfl Try.underlying24 infoInt rfl (by decide) (by omega) u4 (filI s (blkP l0_0 l0_1)) (s:Int) [.int .i64 s] (fun k=>k<w3.heap.size∨w4.heap.size≤k) (fun _=>False) rfl rfl ?aP (fun _ hk=>hk.elim) ?aF ?aO ?aB ?aS ?aL ?_;(case aP=>exact rfl);(case aB=>exact HB5.out);(case aF=>exact(fun k hk=>Or.inr (Nat.le_trans HEr.out hk)));(case aO=>exact HO5.out);(case aS=>exact(below_size HB5.out));(case aL=>have:=filI_length s (blkP l0_0 l0_1);have:=HLT.out;have:=HM2.out;omega);intro v4n w21 ho hb hg hat;have HB6:=zqm hb;have HO6:=zqm ho;have HA6:=zqm (Kd.R_grown HA5.out hg (fun k hk he=>by have h2:=HO5.out.1 k he.symm;have:=hk.1;have:=hk.2;omega));have HE6:=zqm (show w4.heap.size≤w21.heap.size from Nat.le_trans HEr.out hg.size);clear ho hb hg hat HO5 HA5 HB5 HEr))
     go_roundg kn
     case measure=>omega
     case rel=>exact⟨s+1,zq216,⟨by have:=HK.out;omega⟩,⟨by omega⟩,⟨by have:=HLT.out;omega⟩,⟨by rw [filI_succ,if_pos HP.out];exact HO6.out⟩,HA6,HB6,HE6⟩
    ·obtain⟨cv,hcv⟩: ∃cv:Int,((comS l0_0 l0_1 s:Nat):Int)=cv:=⟨_,rfl⟩
     have hne:(cv==(s:Int))=false:=by rw [beq_eq_false_iff_ne,← hcv];omega
     have HCS:=zqm hcv
     have HP:=zqm (show blkP l0_0 l0_1 s=false by unfold blkP;rw [show (comS l0_0 l0_1 s==s)=false by simpa using hc,Bool.and_false])
     clear hc hcv
     go_wp2_with (go_at_call 84;(with_reducible refine(com_calls l0_1 HSM.out s zq241 Aa ca _ HC.out.1 HC.out.2).mono ?_);rintro e w' ⟨he,⟨⟨nd,rfl⟩⟩⟩;rw [HCS.out] at he;subst he;have HO5:=zqm (Kd.R_drewN HOr.out nd);have HA5:=zqm (Kd.R_drewN HAr.out nd);have HB5:=zqm (pw_below_drewN HBr.out nd);clear HOr HAr HBr HC hf0)
     go_roundg kn
     case measure=>omega
     case rel=>exact⟨s+1,zq216,⟨by have:=HK.out;omega⟩,⟨by omega⟩,⟨by have:=HLT.out;omega⟩,⟨by rw [filI_succ,if_neg (by rw [HP.out];simp)];exact HO5.out⟩,HA5,HB5,HEr⟩
   ·have hlt':decide ((s:Int)<mv)=false:=decide_eq_false (by rw [HMV.out];omega)
    obtain rfl:s=M:=by have:=HK2.out;omega
    clear hlt
    go_wp2_with fail
    go_ret
    exact⟨_,rfl,Kd.R_lower (Kd.R_mono (by have h:=HOr.out;rw [HM.out] at h;exact h) (fun _ _=>trivial)) (below_size HB2.out),below_step HB2.out (by repeat(first|exact HBr.out|apply pw_below_drewN|apply below_drew1))⟩
end Go.Proofs.Ytcbjpdaogicibaa.Print
end
section
namespace Go.Proofs.Ytcbjpdaogicibaa.Print
open Go.RowKit Go.Proofs.YtcbjpdaogicibaaW.PrintWords Go.Proofs.YtcbjpdaogicibaaW.PrintLast Go.Proofs.YtcbjpdaogicibaaW.PrintMore
mutual
def laws_FnAlwaysOk.j0 : Nat → ByteArray → Bool → Bool → List (List Int) → List Int → Option (Bool)
 | 0, _, _, _, _, _ => none
 | k + 1, x4, x5, x38, x1113000, x1113001 => if x38 = true then (some false) else (if x5 = true then ((impl_ValueOf.f x1113000 x1113001 x4 0 (wrap64 ((x1113001.length : Int) - 1)) 0).bind fun t1119 => ((impl_YesOf.f x1113000 x1113001).bind fun t1120 => (laws_FnAlwaysOk.j1 k (t1119 != t1120) x1113000 x1113001))) else (laws_FnAlwaysOk.j1 k false x1113000 x1113001))
def laws_FnAlwaysOk.j1 : Nat → Bool → List (List Int) → List Int → Option (Bool)
 | 0, _, _, _ => none
 | k + 1, x51, x1113000, x1113001 => if x51 = true then (some false) else ((impl_AlwaysOk.f x1113000 x1113001 (⟨#[40, 40, 97, 38, 98, 41, 124, 40, 40, 97, 38, 33, 98, 41, 124, 40, 40, 33, 97, 38, 98, 41, 124, 40, 33, 97, 38, 33, 98, 41, 41, 41, 41]⟩ : ByteArray)).bind fun t1121 => ((spec_KeepsOk.f k x1113000 x1113001).bind fun t1122 => (if t1122 = true then ((impl_BlocksOf.f x1113000 x1113001).bind fun t1123 => (some (t1121 == ((t1123.length : Int) == 1)))) else (some true))))
end
def laws_FnAlwaysOk.f (k : Nat) (l0 : List Int) : Option (Bool) := if (l0.length : Int) > 1048576 then (some true) else ((spec_DrawAlwaysOk.f k l0).bind fun bt1105 => ((impl_AlwaysOk.f bt1105.1 bt1105.2.1 bt1105.2.2).bind fun t1113 => ((spec_AlwaysOk.f k bt1105.1 bt1105.2.1 bt1105.2.2).bind fun t1114 => (if (t1113 != t1114) = true then (some false) else ((spec_LogicOk.f k bt1105.1 bt1105.2.1).bind fun t1115 => (if t1115 = true then ((impl_AlwaysOk.f bt1105.1 bt1105.2.1 (⟨#[40, 97, 124, 33, 97, 41]⟩ : ByteArray)).bind fun t1117 => (if t1117 = true then ((impl_AlwaysOk.f bt1105.1 bt1105.2.1 (⟨#[33, 40, 97, 38, 33, 97, 41]⟩ : ByteArray)).bind fun t1118 => (laws_FnAlwaysOk.j0 k bt1105.2.2 t1113 (!t1118) bt1105.1 bt1105.2.1)) else (laws_FnAlwaysOk.j0 k bt1105.2.2 t1113 true bt1105.1 bt1105.2.1))) else (if t1113 = true then (some false) else ((laws_alive.f k).bind fun t1116 => (some t1116)))))))))
def laws_FnAlwaysOk.T11 : Bool × List (List Nat × List Nat) := (true, [([], []), ([0], [0]), ([1], [1]), ([1], [1]), ([1], [1]), ([4, 1], [1, 4]), ([5, 1], [1, 5]), ([6, 1], [1, 6]), ([2, 3, 7, 1, 1], [1, 2, 3, 7]), ([1], [1]), ([9, 8, 1], [1, 9]), ([8, 10, 1], [1, 8, 10]), ([1, 11], [1, 11])])
def laws_FnAlwaysOk.B11 : List Nat := [0, 1, 3, 3, 3, 19, 51, 115, 255, 3, 1023, 2047, 4095]
theorem laws_FnAlwaysOk.tab11 : rtab .any (opsOf Try.f11 11) = laws_FnAlwaysOk.T11 := by kernel_rfl
theorem laws_FnAlwaysOk.bits11 : waitsOk laws_FnAlwaysOk.T11.2 laws_FnAlwaysOk.B11 = true := by kernel_rfl
set_option maxHeartbeats 8000000 in
set_option maxRecDepth 100000 in
theorem laws_FnAlwaysOk.calls (k : Nat) (A0 : Option Addr) (c0 : Nat) (l0 : List Int) (r : Bool) (w : World) (hr0 : Kd.C (Kd.int .u8) w A0 l0.length l0) (hc0 : l0.length ≤ c0) (h : laws_FnAlwaysOk.f k l0 = some r) :
  Calls Try.prog 11 #[.slice A0 l0.length c0] w fun e w' => e = .returned (.bool r) ∧ Below w.heap.size w w' := by
 have hu26:=Try.underlying26;have j5:=zqm hr0;have j4:=zqm hc0;clear hr0 hc0;have HB:=zqm (Below.refl w.heap.size w);have H:(if(l0.length:Int)>1048576 then(some true) else((spec_DrawAlwaysOk.f k l0).bind fun b2=>((impl_AlwaysOk.f b2.1 b2.2.1 b2.2.2).bind fun b3=>((spec_AlwaysOk.f k b2.1 b2.2.1 b2.2.2).bind fun b4=>(if(b3 !=b4)=true then(some false) else((spec_LogicOk.f k b2.1 b2.2.1).bind fun h5=>(if h5=true then((impl_AlwaysOk.f b2.1 b2.2.1 (⟨#[40,97,124,33,97,41]⟩:ByteArray)).bind fun h7=>(if h7=true then((impl_AlwaysOk.f b2.1 b2.2.1 (⟨#[33,40,97,38,33,97,41]⟩:ByteArray)).bind fun d9=>(laws_FnAlwaysOk.j0 k b2.2.2 b3 (!d9) b2.1 b2.2.1)) else(laws_FnAlwaysOk.j0 k b2.2.2 b3 true b2.1 b2.2.1))) else(if b3=true then(some false) else((laws_alive.f k).bind fun h6=>(some h6))))))))))=some r:=h;clear h
 by_cases c2:(l0.length:Int)>1048576
 ·rw [if_pos c2] at H;have i4:decide (1048576<(l0.length:Int))=true:=decide_eq_true c2;have i5:decide (1048576<l0.length)=true:=decide_eq_true (by omega);clear c2;obtain rfl:=Option.some.inj H
  go_enter Try.func11,Try.ntmps11
  go_wp2
  go_ret
  exact⟨zq13,zq0⟩
 ·rw [if_neg c2] at H;have i4:decide (1048576<(l0.length:Int))=false:=decide_eq_false c2;have i5:decide (1048576<l0.length)=false:=decide_eq_false (by omega);clear c2;replace H:=Option.bind_eq_some_iff.mp H;obtain⟨⟨a3,a2,b1⟩,i9,H⟩:=H;(try dsimp only at H);have A3:=zqm i9;clear i9;replace H:=Option.bind_eq_some_iff.mp H;obtain⟨b3,j2,H⟩:=H;(try dsimp only at H);have A4:=zqm j2;clear j2;replace H:=Option.bind_eq_some_iff.mp H;obtain⟨b4,j3,H⟩:=H;(try dsimp only at H);have A5:=zqm j3;clear j3
  by_cases c6:(b3 !=b4)=true
  ·rw [if_pos c6] at H;have i6:(b3 !=b4)=true:=c6;(try(have i7:decide (b3=b4)=false:=by simpa using c6));(try(have i8:(b3==b4)=false:=by simpa using c6));(try(have u2: ¬(b3=b4):=by simpa using c6));clear c6;obtain rfl:=Option.some.inj H
   go_enter Try.func11,Try.ntmps11
   go_wp2_with (first|((with_reducible refine gate_callee (f:=55) rfl ?_);refine goesL_ (some 12) rfl rfl Try.func55 zqk rfl #[.slice A0 l0.length c0] rfl zq1 ?_;(with_reducible refine(spec_DrawAlwaysOk.calls k _ _ l0 a3 a2 b1 _ ?side1 ?side2 A3.out).mono ?_);(case side1=> exact zq89);(case side2=>exact j4.out);rintro e w7 ⟨h8,h9,rfl,d0,d4,hb⟩;refine⟨_,rfl,?_⟩;have a4:=zqm (Kd.S_lower d0 (below_size zq0));have a5:=zqm (Kd.Q_lower d4 (below_size zq0));replace HB:=zqm (below_step zq0 hb);clear hb d0 d4)|((with_reducible refine gate_dst (N:=3) rfl ?_);(try(refine gate_guard (by rfl) ?_;dsimp only));refine box_event ?hg (N:=3) ?hd (cs:= #[.slice none 0 0,.slice none 0 0]) (t:=26) ?hr ?_;(case hd=>rfl);(case hg=>rfl);(case hr=> exact zq17);intro a1 hg w8 hbox hb;replace a4:=zqm (Kd.S_below (zqfS a4.out) hb);replace a5:=zqm (Kd.Q_below (zqfQ a5.out) hb);have d5:=zqm (below_step zq0 hb);have a0:=zqm (hbox);have e0:=zqm ((by rw [hg];exact(below_size zq0):w.heap.size≤a1));have a6:=zqm ((by rw [hg];exact(below_size zq0):w.heap.size≤a1));clear HB;have HB:=d5;clear d5 hb hbox hg;obtain⟨d6,d3,t6⟩:=Kd.S_slice a4.out;subst t6;have e3:w8.cell? ⟨a1,0,none⟩=some (.slice none 0 0):=(blk_cell a0.out 0).trans rfl;have e4:w8.cell? ⟨a1,1,none⟩=some (.slice none 0 0):=(blk_cell a0.out 1).trans rfl;have f9:=blk_frozen a0.out 0;have g0:=blk_frozen a0.out 1;obtain⟨d2,d1,n7,_⟩:=Kd.Q_slice a5.out;subst n7)|((with_reducible refine gate_callee (f:=56) rfl ?_);refine goesL_ (some 17) rfl rfl Try.func56 zqk rfl #[.agg #[.slice d6 a3.length d3,.slice d2 a2.length d1],.string b1] rfl zq1 ?_;(with_reducible refine(impl_AlwaysOk.calls _ _ a3 _ _ a2 b1 b3 _ ?side1 ?side2 ?side3 ?side4 A4.out).mono ?_);(case side1=>refine(Kd.S_reads' (e:=24) (base:=w.heap.size) (ok:=fun k_=>some k_≠(.slice d2 a2.length d1:Value).ownBlock) (n:=a3.length) (c:=d3) ?_).2.2;exact zq128);(case side2=> exact zq157);(case side3=>refine(Kd.Q_reads' (e:=3) (base:=w.heap.size) (ok:=fun k_=>True) (n:=a2.length) (c:=d1) ?_).2.2;exact zq109);(case side4=> exact zq156);rintro e m3 ⟨rfl,hb⟩;refine⟨_,rfl,?_⟩;replace a4:=zqm (Kd.S_below zq128 hb);replace a5:=zqm (Kd.Q_below zq109 hb);replace a0:=zqm (blk_below (g:=a1) (o:= .cells #[.slice d6 a3.length d3,.slice d2 a2.length d1] 26 (0,0)) (by refine zqe ?_;refine blk_put (cs:= #[.slice d6 a3.length d3,.slice none 0 0]) ?_ 1 _ rfl;refine zqe ?_;refine blk_put (cs:= #[.slice none 0 0,.slice none 0 0]) ?_ 0 _ rfl;refine zqe ?_;exact a0.out) hb);replace HB:=zqm (below_step zq4 hb);clear hb;have e5:m3.cell? ⟨a1,0,none⟩=some (.slice d6 a3.length d3):=(blk_cell a0.out 0).trans rfl;have e6:m3.cell? ⟨a1,1,none⟩=some (.slice d2 a2.length d1):=(blk_cell a0.out 1).trans rfl;have g1:=blk_frozen a0.out 0;have g2:=blk_frozen a0.out 1)|((with_reducible refine gate_callee (f:=57) rfl ?_);refine goesL_ (some 21) rfl rfl Try.func57 zqk rfl #[.agg #[.slice d6 a3.length d3,.slice d2 a2.length d1],.string b1] rfl zq1 ?_;(with_reducible refine(spec_AlwaysOk.calls k _ _ a3 _ _ a2 b1 b4 _ ?side1 ?side2 ?side3 ?side4 A5.out).mono ?_);(case side1=> exact zq42);(case side2=> exact zq157);(case side3=> exact zq41);(case side4=> exact zq156);rintro e u5 ⟨rfl,hb⟩;refine⟨_,rfl,?_⟩;replace a4:=zqm (Kd.S_below (zqfS a4.out) hb);replace a5:=zqm (Kd.Q_below (zqfQ a5.out) hb);replace a0:=zqm (blk_below (g:=a1) (o:= .cells #[.slice d6 a3.length d3,.slice d2 a2.length d1] 26 (0,0)) (zqe a0.out) hb);replace HB:=zqm (below_step zq4 hb);clear hb))
   go_ret
   exact⟨zq13,zq4⟩
  ·rw [if_neg c6] at H;(have i6:(b3 !=b4)=false:=by simpa using c6);(try(have i7:decide (b3=b4)=true:=by simpa using c6));(try(have i8:(b3==b4)=true:=by simpa using c6));clear c6;replace H:=Option.bind_eq_some_iff.mp H;obtain⟨h5,k4,H⟩:=H;(try dsimp only at H);have k3:=zqm k4;clear k4
   by_cases e1:h5=true
   ·subst e1;rw [if_pos rfl] at H;have i2:=zqm H;clear H
    go_enter Try.func11,Try.ntmps11
    go_upto_region 9 with (first|((with_reducible refine gate_callee (f:=55) rfl ?_);refine goesL_ (some 12) rfl rfl Try.func55 zqk rfl #[.slice A0 l0.length c0] rfl zq1 ?_;(with_reducible refine(spec_DrawAlwaysOk.calls k _ _ l0 a3 a2 b1 _ ?side1 ?side2 A3.out).mono ?_);(case side1=> exact zq89);(case side2=>exact j4.out);rintro e u6 ⟨h8,h9,rfl,d0,d4,hb⟩;refine⟨_,rfl,?_⟩;have a4:=zqm (Kd.S_lower d0 (below_size zq0));have a5:=zqm (Kd.Q_lower d4 (below_size zq0));replace HB:=zqm (below_step zq0 hb);clear hb d0 d4)|((with_reducible refine gate_dst (N:=3) rfl ?_);(try(refine gate_guard (by rfl) ?_;dsimp only));refine box_event ?hg (N:=3) ?hd (cs:= #[.slice none 0 0,.slice none 0 0]) (t:=26) ?hr ?_;(case hd=>rfl);(case hg=>rfl);(case hr=> exact zq17);intro a1 hg m4 hbox hb;replace a4:=zqm (Kd.S_below (zqfS a4.out) hb);replace a5:=zqm (Kd.Q_below (zqfQ a5.out) hb);have d5:=zqm (below_step zq0 hb);have a0:=zqm (hbox);have e0:=zqm ((by rw [hg];exact(below_size zq0):w.heap.size≤a1));have a6:=zqm ((by rw [hg];exact(below_size zq0):w.heap.size≤a1));clear HB;have HB:=d5;clear d5 hb hbox hg;obtain⟨b0,a9,n8⟩:=Kd.S_slice a4.out;subst n8;have e7:m4.cell? ⟨a1,0,none⟩=some (.slice none 0 0):=(blk_cell a0.out 0).trans rfl;have e8:m4.cell? ⟨a1,1,none⟩=some (.slice none 0 0):=(blk_cell a0.out 1).trans rfl;have g3:=blk_frozen a0.out 0;have g4:=blk_frozen a0.out 1;obtain⟨a8,a7,n9,_⟩:=Kd.Q_slice a5.out;subst n9)|((with_reducible refine gate_callee (f:=56) rfl ?_);refine goesL_ (some 17) rfl rfl Try.func56 zqk rfl #[.agg #[.slice b0 a3.length a9,.slice a8 a2.length a7],.string b1] rfl zq1 ?_;(with_reducible refine(impl_AlwaysOk.calls _ _ a3 _ _ a2 b1 b3 _ ?side1 ?side2 ?side3 ?side4 A4.out).mono ?_);(case side1=>refine(Kd.S_reads' (e:=24) (base:=w.heap.size) (ok:=fun k_=>some k_≠(.slice a8 a2.length a7:Value).ownBlock) (n:=a3.length) (c:=a9) ?_).2.2;exact zq125);(case side2=> exact zq157);(case side3=>refine(Kd.Q_reads' (e:=3) (base:=w.heap.size) (ok:=fun k_=>True) (n:=a2.length) (c:=a7) ?_).2.2;exact zq106);(case side4=> exact zq156);rintro e m5 ⟨rfl,hb⟩;refine⟨_,rfl,?_⟩;replace a4:=zqm (Kd.S_below zq125 hb);replace a5:=zqm (Kd.Q_below zq106 hb);replace a0:=zqm (blk_below (g:=a1) (o:= .cells #[.slice b0 a3.length a9,.slice a8 a2.length a7] 26 (0,0)) (by refine zqe ?_;refine blk_put (cs:= #[.slice b0 a3.length a9,.slice none 0 0]) ?_ 1 _ rfl;refine zqe ?_;refine blk_put (cs:= #[.slice none 0 0,.slice none 0 0]) ?_ 0 _ rfl;refine zqe ?_;exact a0.out) hb);replace HB:=zqm (below_step zq4 hb);clear hb;have e9:m5.cell? ⟨a1,0,none⟩=some (.slice b0 a3.length a9):=(blk_cell a0.out 0).trans rfl;have f0:m5.cell? ⟨a1,1,none⟩=some (.slice a8 a2.length a7):=(blk_cell a0.out 1).trans rfl;have g5:=blk_frozen a0.out 0;have g6:=blk_frozen a0.out 1)|((with_reducible refine gate_callee (f:=57) rfl ?_);refine goesL_ (some 21) rfl rfl Try.func57 zqk rfl #[.agg #[.slice b0 a3.length a9,.slice a8 a2.length a7],.string b1] rfl zq1 ?_;(with_reducible refine(spec_AlwaysOk.calls k _ _ a3 _ _ a2 b1 b4 _ ?side1 ?side2 ?side3 ?side4 A5.out).mono ?_);(case side1=> exact zq42);(case side2=> exact zq157);(case side3=> exact zq41);(case side4=> exact zq156);rintro e m6 ⟨rfl,hb⟩;refine⟨_,rfl,?_⟩;replace a4:=zqm (Kd.S_below (zqfS a4.out) hb);replace a5:=zqm (Kd.Q_below (zqfQ a5.out) hb);replace a0:=zqm (blk_below (g:=a1) (o:= .cells #[.slice b0 a3.length a9,.slice a8 a2.length a7] 26 (0,0)) (zqe a0.out) hb);replace HB:=zqm (below_step zq4 hb);clear hb;have f1:m6.cell? ⟨a1,0,none⟩=some (.slice b0 a3.length a9):=(blk_cell a0.out 0).trans rfl;have f2:m6.cell? ⟨a1,1,none⟩=some (.slice a8 a2.length a7):=(blk_cell a0.out 1).trans rfl;have g7:=blk_frozen a0.out 0;have g8:=blk_frozen a0.out 1)|((with_reducible refine gate_callee (f:=17) rfl ?_);refine goesL_ (some 24) rfl rfl Try.func17 zqk rfl #[.agg #[.slice b0 a3.length a9,.slice a8 a2.length a7]] rfl zq1 ?_;(with_reducible refine(spec_LogicOk.calls k _ _ a3 _ _ a2 true _ ?side1 ?side2 ?side3 ?side4 k3.out).mono ?_);(case side1=> exact zq42);(case side2=> exact zq157);(case side3=> exact zq41);(case side4=> exact zq156);rintro e k2 ⟨rfl,hb⟩;refine⟨_,rfl,?_⟩;replace a4:=zqm (Kd.S_below (zqfS a4.out) hb);replace a5:=zqm (Kd.Q_below (zqfQ a5.out) hb);replace a0:=zqm (blk_below (g:=a1) (o:= .cells #[.slice b0 a3.length a9,.slice a8 a2.length a7] 26 (0,0)) (zqe a0.out) hb);replace HB:=zqm (below_step zq4 hb);clear hb))
    (try simp only [Act.put,List.setIfInBounds_toArray,List.set_cons_zero,List.set_cons_succ])
    go_cut [38] (fun t7 wc=> ∃(kq:Nat) (d7:Bool),t7= .bool d7∧Aside0 (laws_FnAlwaysOk.j0 kq b1 b3 d7 a3 a2=some r)∧Aside0 (kq≤k)∧Aside0 (Kd.S (Kd.slice 3 (Kd.int .i64)) 24 wc w.heap.size (fun k_=>some k_≠((.slice a8 a2.length a7):Value).ownBlock) (.slice b0 a3.length a9) a3)∧Aside0 (Kd.Q (Kd.int .i64) 3 wc w.heap.size (fun _=>True) (.slice a8 a2.length a7) a2)∧Aside0 (wc.heap[a1]? =some (.cells #[(.slice b0 a3.length a9),(.slice a8 a2.length a7)] 26 (0,0)))∧Aside0 (Below w.heap.size w wc))
    case first=>
     have H:=i2.out;clear i2;replace H:=Option.bind_eq_some_iff.mp H;obtain⟨h7,k5,H⟩:=H;(try dsimp only at H);have l9:=zqm k5;clear k5
     by_cases e2:h7=true
     ·subst e2;rw [if_pos rfl] at H;replace H:=Option.bind_eq_some_iff.mp H;obtain⟨d9,k6,H⟩:=H;(try dsimp only at H);have i9:=zqm k6;clear k6;have H':=zqm H;clear H;have f3:k2.cell? ⟨a1,0,none⟩=some (.slice b0 a3.length a9):=(blk_cell a0.out 0).trans rfl;have f4:k2.cell? ⟨a1,1,none⟩=some (.slice a8 a2.length a7):=(blk_cell a0.out 1).trans rfl;have g9:=blk_frozen a0.out 0;have h0:=blk_frozen a0.out 1
      go_wp2_with (first|((with_reducible refine gate_callee (f:=56) rfl ?_);refine goesL_ (some 32) rfl rfl Try.func56 zqk rfl #[.agg #[.slice b0 a3.length a9,.slice a8 a2.length a7],.string (⟨#[40,97,124,33,97,41]⟩:ByteArray)] rfl zq1 ?_;(with_reducible refine(impl_AlwaysOk.calls _ _ a3 _ _ a2 (⟨#[40,97,124,33,97,41]⟩:ByteArray) true _ ?side1 ?side2 ?side3 ?side4 l9.out).mono ?_);(case side1=> exact zq42);(case side2=> exact zq157);(case side3=> exact zq41);(case side4=> exact zq156);rintro e m7 ⟨rfl,hb⟩;refine⟨_,rfl,?_⟩;replace a4:=zqm (Kd.S_below (zqfS a4.out) hb);replace a5:=zqm (Kd.Q_below (zqfQ a5.out) hb);replace a0:=zqm (blk_below (g:=a1) (o:= .cells #[.slice b0 a3.length a9,.slice a8 a2.length a7] 26 (0,0)) (zqe a0.out) hb);replace HB:=zqm (below_step zq4 hb);clear hb;have f5:m7.cell? ⟨a1,0,none⟩=some (.slice b0 a3.length a9):=(blk_cell a0.out 0).trans rfl;have f6:m7.cell? ⟨a1,1,none⟩=some (.slice a8 a2.length a7):=(blk_cell a0.out 1).trans rfl;have h1:=blk_frozen a0.out 0;have h2:=blk_frozen a0.out 1)|(go_at_call 56;(with_reducible refine(impl_AlwaysOk.calls _ _ a3 _ _ a2 (⟨#[33,40,97,38,33,97,41]⟩:ByteArray) d9 _ ?side1 ?side2 ?side3 ?side4 i9.out).mono ?_);(case side1=> exact zq42);(case side2=> exact zq157);(case side3=> exact zq41);(case side4=> exact zq156);rintro e u7 ⟨rfl,hb⟩;replace a4:=zqm (Kd.S_below (zqfS a4.out) hb);replace a5:=zqm (Kd.Q_below (zqfQ a5.out) hb);replace a0:=zqm (blk_below (g:=a1) (o:= .cells #[.slice b0 a3.length a9,.slice a8 a2.length a7] 26 (0,0)) (zqe a0.out) hb);replace HB:=zqm (below_step zq4 hb);clear hb))
      go_meet
      case rel=>exact⟨_,(!d9),zq7,H',⟨zq62⟩,⟨zqfS a4.out⟩,⟨zqfQ a5.out⟩,⟨zqe a0.out⟩,⟨zq4⟩⟩
     ·replace e2:=Bool.eq_false_iff.mpr e2;subst e2;rw [if_neg (show¬(false=true) by decide)] at H;have H':=zqm H;clear H;have f7:k2.cell? ⟨a1,0,none⟩=some (.slice b0 a3.length a9):=(blk_cell a0.out 0).trans rfl;have f8:k2.cell? ⟨a1,1,none⟩=some (.slice a8 a2.length a7):=(blk_cell a0.out 1).trans rfl;have h3:=blk_frozen a0.out 0;have h4:=blk_frozen a0.out 1
      go_wp2_with (first|((with_reducible refine gate_callee (f:=56) rfl ?_);refine goesL_ (some 32) rfl rfl Try.func56 zqk rfl #[.agg #[.slice b0 a3.length a9,.slice a8 a2.length a7],.string (⟨#[40,97,124,33,97,41]⟩:ByteArray)] rfl zq1 ?_;(with_reducible refine(impl_AlwaysOk.calls _ _ a3 _ _ a2 (⟨#[40,97,124,33,97,41]⟩:ByteArray) false _ ?side1 ?side2 ?side3 ?side4 l9.out).mono ?_);(case side1=> exact zq42);(case side2=> exact zq157);(case side3=> exact zq41);(case side4=> exact zq156);rintro e u9 ⟨rfl,hb⟩;refine⟨_,rfl,?_⟩;replace a4:=zqm (Kd.S_below (zqfS a4.out) hb);replace a5:=zqm (Kd.Q_below (zqfQ a5.out) hb);replace a0:=zqm (blk_below (g:=a1) (o:= .cells #[.slice b0 a3.length a9,.slice a8 a2.length a7] 26 (0,0)) (zqe a0.out) hb);replace HB:=zqm (below_step zq4 hb);clear hb))
      go_meet
      case rel=>exact⟨_,(true),zq7,H',⟨zq62⟩,⟨zqfS a4.out⟩,⟨zqfQ a5.out⟩,⟨zqe a0.out⟩,⟨zq4⟩⟩
    case rest=>
     clear i2;(try clear c1);(try clear c2);(try clear i4);(try clear i5);(try clear p2);(try clear c5);(try clear c6);(try clear i6);(try clear i7);(try clear i8);(try clear t4);(try clear e1);(try clear t5);(try clear e2);(try clear e3);(try clear e4);(try clear e5);(try clear e6);(try clear e7);(try clear e8);(try clear e9);(try clear f0);(try clear f1);(try clear f2);(try clear f3);(try clear f4);(try clear f5);(try clear f6);(try clear f7);(try clear f8);(try clear f9);(try clear g0);(try clear g1);(try clear g2);(try clear g3);(try clear g4);(try clear g5);(try clear g6);(try clear g7);(try clear g8);(try clear g9);(try clear h0);(try clear h1);(try clear h2);(try clear h3);(try clear h4);obtain⟨kq,d7,rfl,HA,l4,HO_1113000,HO_1113001,a0,HB⟩:=hcut
     cases kq with
     |zero=>exact absurd HA.out (by simp [laws_FnAlwaysOk.j0])
     |succ o5=>
      have H:=HA.out;clear HA;simp only [laws_FnAlwaysOk.j0] at H
      by_cases i0:d7=true
      ·subst i0;rw [if_pos rfl] at H;obtain rfl:=Option.some.inj H
       go_wp2
       go_ret
       exact⟨zq13,zq4⟩
      ·replace i0:=Bool.eq_false_iff.mpr i0;subst i0;rw [if_neg (show¬(false=true) by decide)] at H;have i3:=zqm H;clear H
       go_upto_region 11 with (fail)
       go_cut [51] (fun t8 wc=> ∃(kq:Nat) (d8:Bool),t8= .bool d8∧Aside0 (laws_FnAlwaysOk.j1 kq d8 a3 a2=some r)∧Aside0 (kq≤o5)∧Aside0 (Kd.S (Kd.slice 3 (Kd.int .i64)) 24 wc w.heap.size (fun k_=>some k_≠((.slice a8 a2.length a7):Value).ownBlock) (.slice b0 a3.length a9) a3)∧Aside0 (Kd.Q (Kd.int .i64) 3 wc w.heap.size (fun _=>True) (.slice a8 a2.length a7) a2)∧Aside0 (wc.heap[a1]? =some (.cells #[(.slice b0 a3.length a9),(.slice a8 a2.length a7)] 26 (0,0)))∧Aside0 (Below w.heap.size w wc))
       case first=>
        have H:=i3.out;clear i3
        by_cases i1:b3=true
        ·subst i1;rw [if_pos rfl] at H;replace H:=Option.bind_eq_some_iff.mp H;obtain⟨j9,k7,H⟩:=H;(try dsimp only at H);have j2:=zqm k7;clear k7;replace H:=Option.bind_eq_some_iff.mp H;obtain⟨k0,k8,H⟩:=H;(try dsimp only at H);have t2:=zqm k8;clear k8;have H':=zqm H;clear H;(try go_wp2);replace HO_1113000:=zqm (Kd.S_drew HO_1113000.out);replace HO_1113001:=zqm (Kd.Q_drew HO_1113001.out);replace a0:=zqm (blk_drew a0.out);replace HB:=zqm (below_drew1 HB.out);refine start_ (n:=13) (S:=fun w'=>w'.cell? ⟨a1,0,none⟩=some (.slice b0 a3.length a9)∧w'.cell? ⟨a1,1,none⟩=some (.slice a8 a2.length a7)) (ds:= []) (zqb 13 0) zqk rfl rfl ⟨(blk_cell a0.out 0).trans rfl,(blk_cell a0.out 1).trans rfl⟩ (fun hHeld=>?_);refine with_tabW laws_FnAlwaysOk.tab11 laws_FnAlwaysOk.bits11 (fun HT_ HW_=>?_);generalize wc.drew=v0 at HO_1113000 HO_1113001 a0 HB hHeld ⊢;refine zqp 0 39 (zqb 13 1) HT_ ?_;refine zqp 1 40 (zqb 13 3) HT_ ?_;refine zqp 3 42 (zqb 13 11) HT_ ?_;refine zqp 4 43 (zqb 13 27) HT_ ?_;refine zqw 2 41 (zqb 13 31) HT_ HW_ hHeld ?_;refine zqw 5 44 (zqb 13 63) HT_ HW_ hHeld ?_;refine zqp 6 45 (zqb 13 127) HT_ ?_;refine zqp 7 46 (zqb 13 255) HT_ ?_;refine zqw 9 48 (zqb 13 767) HT_ HW_ hHeld ?_;refine one_ (i:=8) (N:=some 47) (zqb 13 1023) rfl rfl (one_of HT_.out zqk) (by decide) (fun K hK=>?_);refine goes_ Try.func40 zqk rfl #[.agg #[.slice b0 a3.length a9,.slice a8 a2.length a7],.string b1,.int .i64 0,.int .i64 (wrap64 ((a2.length:Int) - 1)),.int .i64 0] (by rfl) rfl rfl zq1 ?_;(with_reducible refine(impl_ValueOf.calls _ _ a3 _ _ a2 b1 0 (wrap64 ((a2.length:Int) - 1)) 0 j9 _ ?side1 ?side2 ?side3 ?side4 j2.out).mono ?_);(case side1=> exact zq48);(case side2=> exact zq189);(case side3=> exact zq47);(case side4=> exact zq188);rintro e v1 ⟨rfl,hb⟩;refine⟨_,rfl,?_⟩;replace HO_1113000:=zqm (Kd.S_below (zqfS HO_1113000.out) hb);replace HO_1113001:=zqm (Kd.Q_below (zqfQ HO_1113001.out) hb);replace a0:=zqm (blk_below (g:=a1) (o:= .cells #[.slice b0 a3.length a9,.slice a8 a2.length a7] 26 (0,0)) (zqe a0.out) hb);replace HB:=zqm (below_step zq4 hb);clear hb;refine hK.out _ _ ⟨(blk_cell a0.out 0).trans rfl,(blk_cell a0.out 1).trans rfl⟩ (fun hHeld=>?_);clear hK K;refine norm_ (a':=?_) ?_ ?_;rotate_left
         ·show Act.put _ (some 47) _=_;exact zqs
         refine one_ (i:=10) (N:=some 49) (zqb 13 2047) rfl rfl (one_of HT_.out zqk) (by decide) (fun K hK=>?_);refine goes_ Try.func58 zqk rfl #[.agg #[.slice b0 a3.length a9,.slice a8 a2.length a7]] (by rfl) rfl rfl zq1 ?_;(with_reducible refine(impl_YesOf.calls _ _ a3 _ _ a2 k0 _ ?side1 ?side2 ?side3 ?side4 t2.out).mono ?_);(case side1=> exact zq48);(case side2=> exact zq189);(case side3=> exact zq47);(case side4=> exact zq188);rintro e v2 ⟨rfl,hb⟩;refine⟨_,rfl,?_⟩;replace HO_1113000:=zqm (Kd.S_below (zqfS HO_1113000.out) hb);replace HO_1113001:=zqm (Kd.Q_below (zqfQ HO_1113001.out) hb);replace a0:=zqm (blk_below (g:=a1) (o:= .cells #[.slice b0 a3.length a9,.slice a8 a2.length a7] 26 (0,0)) (zqe a0.out) hb);replace HB:=zqm (below_step zq4 hb);clear hb;refine hK.out _ _ ⟨(blk_cell a0.out 0).trans rfl,(blk_cell a0.out 1).trans rfl⟩ (fun hHeld=>?_);clear hK K;refine norm_ (a':=?_) ?_ ?_;rotate_left
         ·show Act.put _ (some 49) _=_;exact zqs
         refine zqp 11 50 (zqb 13 4095) HT_ ?_;refine zqp 12 51 (zqb 13 8191) HT_ ?_;refine done_ (done_of HT_.out zqk) ?_;try go_wp2
         go_meet
         case rel=>exact⟨_,((j9 !=k0)),zq7,H',⟨by have:=l4.out;first|omega|exact Nat.le_refl _⟩,⟨zqfS HO_1113000.out⟩,⟨zqfQ HO_1113001.out⟩,⟨zqe a0.out⟩,⟨zq4⟩⟩
        ·replace i1:=Bool.eq_false_iff.mpr i1;subst i1;rw [if_neg (show¬(false=true) by decide)] at H;have H':=zqm H;clear H;(try go_wp2);replace HO_1113000:=zqm (Kd.S_drew HO_1113000.out);replace HO_1113001:=zqm (Kd.Q_drew HO_1113001.out);replace a0:=zqm (blk_drew a0.out);replace HB:=zqm (below_drew1 HB.out);refine start_ (n:=13) (S:=fun w'=>True) (ds:= []) (zqb 13 0) zqk rfl rfl trivial (fun hHeld=>?_);refine with_tabW laws_FnAlwaysOk.tab11 laws_FnAlwaysOk.bits11 (fun HT_ HW_=>?_);generalize wc.drew=v3 at HO_1113000 HO_1113001 a0 HB hHeld ⊢;refine zqp 0 39 (zqb 13 1) HT_ ?_;refine zqp 1 40 (zqb 13 3) HT_ ?_;refine zqu 2 41 (zqb 13 7) HT_ ?_;refine zqu 3 42 (zqb 13 15) HT_ ?_;refine zqu 4 43 (zqb 13 31) HT_ ?_;refine zqu 5 44 (zqb 13 63) HT_ ?_;refine zqu 6 45 (zqb 13 127) HT_ ?_;refine zqu 7 46 (zqb 13 255) HT_ ?_;refine zqu 8 47 (zqb 13 511) HT_ ?_;refine zqu 9 48 (zqb 13 1023) HT_ ?_;refine zqu 10 49 (zqb 13 2047) HT_ ?_;refine zqu 11 50 (zqb 13 4095) HT_ ?_;refine zqp 12 51 (zqb 13 8191) HT_ ?_;refine done_ (done_of HT_.out zqk) ?_;try go_wp2
         go_meet
         case rel=>exact⟨_,(false),zq7,H',⟨by have:=l4.out;first|omega|exact Nat.le_refl _⟩,⟨zqfS HO_1113000.out⟩,⟨zqfQ HO_1113001.out⟩,⟨zqe a0.out⟩,⟨zq4⟩⟩
       case rest=>
        clear i3;(try clear c1);(try clear c2);(try clear i4);(try clear i5);(try clear p2);(try clear c3);(try clear c4);(try clear c5);(try clear c6);(try clear i6);(try clear i7);(try clear i8);(try clear p6);(try clear t4);(try clear e1);(try clear t5);(try clear e2);(try clear i0);(try clear i1);(try clear u4);(try clear e3);(try clear e4);(try clear e5);(try clear e6);(try clear e7);(try clear e8);(try clear e9);(try clear f0);(try clear f1);(try clear f2);(try clear f3);(try clear f4);(try clear f5);(try clear f6);(try clear f7);(try clear f8);(try clear f9);(try clear g0);(try clear g1);(try clear g2);(try clear g3);(try clear g4);(try clear g5);(try clear g6);(try clear g7);(try clear g8);(try clear g9);(try clear h0);(try clear h1);(try clear h2);(try clear h3);(try clear h4);(try clear p2);obtain⟨kq,d8,rfl,HA,u1,HO_1113000,HO_1113001,a0,HB⟩:=hcut
        cases kq with
        |zero=>exact absurd HA.out (by simp [laws_FnAlwaysOk.j1])
        |succ l6=>
         have H:=HA.out;clear HA;simp only [laws_FnAlwaysOk.j1] at H
         by_cases j6:d8=true
         ·subst j6;rw [if_pos rfl] at H;obtain rfl:=Option.some.inj H
          go_wp2
          go_ret
          exact⟨zq13,zq4⟩
         ·replace j6:=Bool.eq_false_iff.mpr j6;subst j6;rw [if_neg (show¬(false=true) by decide)] at H;replace H:=Option.bind_eq_some_iff.mp H;obtain⟨k1,k9,H⟩:=H;(try dsimp only at H);have m0:=zqm k9;clear k9;replace H:=Option.bind_eq_some_iff.mp H;obtain⟨l7,l1,H⟩:=H;(try dsimp only at H);have m1:=zqm l1;clear l1
          by_cases j7:l7=true
          ·subst j7;rw [if_pos rfl] at H;replace H:=Option.bind_eq_some_iff.mp H;obtain⟨l8,l2,H⟩:=H;(try dsimp only at H);have j3:=zqm l2;clear l2;obtain rfl:=Option.some.inj H;have o6:wc.cell? ⟨a1,0,none⟩=some (.slice b0 a3.length a9):=(blk_cell a0.out 0).trans rfl;have o7:wc.cell? ⟨a1,1,none⟩=some (.slice a8 a2.length a7):=(blk_cell a0.out 1).trans rfl;have r0:=blk_frozen a0.out 0;have r1:=blk_frozen a0.out 1
           go_wp2_with (first|((with_reducible refine gate_callee (f:=56) rfl ?_);refine goesL_ (some 53) rfl rfl Try.func56 zqk rfl #[.agg #[.slice b0 a3.length a9,.slice a8 a2.length a7],.string (⟨#[40,40,97,38,98,41,124,40,40,97,38,33,98,41,124,40,40,33,97,38,98,41,124,40,33,97,38,33,98,41,41,41,41]⟩:ByteArray)] rfl zq1 ?_;(with_reducible refine(impl_AlwaysOk.calls _ _ a3 _ _ a2 (⟨#[40,40,97,38,98,41,124,40,40,97,38,33,98,41,124,40,40,33,97,38,98,41,124,40,33,97,38,33,98,41,41,41,41]⟩:ByteArray) k1 _ ?side1 ?side2 ?side3 ?side4 m0.out).mono ?_);(case side1=> exact zq48);(case side2=> exact zq189);(case side3=> exact zq47);(case side4=> exact zq188);rintro e m8 ⟨rfl,hb⟩;refine⟨_,rfl,?_⟩;replace HO_1113000:=zqm (Kd.S_below (zqfS HO_1113000.out) hb);replace HO_1113001:=zqm (Kd.Q_below (zqfQ HO_1113001.out) hb);replace a0:=zqm (blk_below (g:=a1) (o:= .cells #[.slice b0 a3.length a9,.slice a8 a2.length a7] 26 (0,0)) (zqe a0.out) hb);replace HB:=zqm (below_step zq4 hb);clear hb;have o8:m8.cell? ⟨a1,0,none⟩=some (.slice b0 a3.length a9):=(blk_cell a0.out 0).trans rfl;have o9:m8.cell? ⟨a1,1,none⟩=some (.slice a8 a2.length a7):=(blk_cell a0.out 1).trans rfl;have r2:=blk_frozen a0.out 0;have r3:=blk_frozen a0.out 1)|((with_reducible refine gate_callee (f:=34) rfl ?_);refine goesL_ (some 55) rfl rfl Try.func34 zqk rfl #[.agg #[.slice b0 a3.length a9,.slice a8 a2.length a7]] rfl zq1 ?_;(with_reducible refine(spec_KeepsOk.calls l6 _ _ a3 _ _ a2 true _ ?side1 ?side2 ?side3 ?side4 m1.out).mono ?_);(case side1=> exact zq48);(case side2=> exact zq189);(case side3=> exact zq47);(case side4=> exact zq188);rintro e m9 ⟨rfl,hb⟩;refine⟨_,rfl,?_⟩;replace HO_1113000:=zqm (Kd.S_below (zqfS HO_1113000.out) hb);replace HO_1113001:=zqm (Kd.Q_below (zqfQ HO_1113001.out) hb);replace a0:=zqm (blk_below (g:=a1) (o:= .cells #[.slice b0 a3.length a9,.slice a8 a2.length a7] 26 (0,0)) (zqe a0.out) hb);replace HB:=zqm (below_step zq4 hb);clear hb;have p0:m9.cell? ⟨a1,0,none⟩=some (.slice b0 a3.length a9):=(blk_cell a0.out 0).trans rfl;have p1:m9.cell? ⟨a1,1,none⟩=some (.slice a8 a2.length a7):=(blk_cell a0.out 1).trans rfl;have r4:=blk_frozen a0.out 0;have r5:=blk_frozen a0.out 1)|(go_at_call 20;(with_reducible refine(impl_BlocksOf.calls _ _ a3 _ _ a2 l8 _ ?side1 ?side2 ?side3 ?side4 j3.out).mono ?_);(case side1=> exact zq48);(case side2=> exact zq189);(case side3=> exact zq47);(case side4=> exact zq188);rintro e v4 ⟨t9,rfl,d0,hb⟩;replace HO_1113000:=zqm (Kd.S_elder' (zqfS HO_1113000.out) (Kd.R_base d0) hb);have m2:=zqm (Kd.Q_elder' (zqfQ HO_1113001.out) (Kd.R_base d0) hb);have l5:=zqm (Kd.R_lower (Kd.R_new' d0 (Kd.Q_lt (zqfQ HO_1113001.out))) (below_size zq4));replace a0:=zqm (blk_below (g:=a1) (o:= .cells #[.slice b0 a3.length a9,.slice a8 a2.length a7] 26 (0,0)) (zqe a0.out) hb);replace HB:=zqm (below_step zq4 hb);clear HO_1113001;have HO_1113001:=m2;clear m2 hb d0;obtain⟨u0,u3,o0⟩:=Kd.R_slice l5.out;subst o0))
           go_ret
           exact⟨zq13,zq4⟩
          ·replace j7:=Bool.eq_false_iff.mpr j7;subst j7;rw [if_neg (show¬(false=true) by decide)] at H;obtain rfl:=Option.some.inj H;have p3:wc.cell? ⟨a1,0,none⟩=some (.slice b0 a3.length a9):=(blk_cell a0.out 0).trans rfl;have p4:wc.cell? ⟨a1,1,none⟩=some (.slice a8 a2.length a7):=(blk_cell a0.out 1).trans rfl;have r6:=blk_frozen a0.out 0;have r7:=blk_frozen a0.out 1
           go_wp2_with (first|((with_reducible refine gate_callee (f:=56) rfl ?_);refine goesL_ (some 53) rfl rfl Try.func56 zqk rfl #[.agg #[.slice b0 a3.length a9,.slice a8 a2.length a7],.string (⟨#[40,40,97,38,98,41,124,40,40,97,38,33,98,41,124,40,40,33,97,38,98,41,124,40,33,97,38,33,98,41,41,41,41]⟩:ByteArray)] rfl zq1 ?_;(with_reducible refine(impl_AlwaysOk.calls _ _ a3 _ _ a2 (⟨#[40,40,97,38,98,41,124,40,40,97,38,33,98,41,124,40,40,33,97,38,98,41,124,40,33,97,38,33,98,41,41,41,41]⟩:ByteArray) k1 _ ?side1 ?side2 ?side3 ?side4 m0.out).mono ?_);(case side1=> exact zq48);(case side2=> exact zq189);(case side3=> exact zq47);(case side4=> exact zq188);rintro e n0 ⟨rfl,hb⟩;refine⟨_,rfl,?_⟩;replace HO_1113000:=zqm (Kd.S_below (zqfS HO_1113000.out) hb);replace HO_1113001:=zqm (Kd.Q_below (zqfQ HO_1113001.out) hb);replace a0:=zqm (blk_below (g:=a1) (o:= .cells #[.slice b0 a3.length a9,.slice a8 a2.length a7] 26 (0,0)) (zqe a0.out) hb);replace HB:=zqm (below_step zq4 hb);clear hb;have p5:n0.cell? ⟨a1,0,none⟩=some (.slice b0 a3.length a9):=(blk_cell a0.out 0).trans rfl;have p7:n0.cell? ⟨a1,1,none⟩=some (.slice a8 a2.length a7):=(blk_cell a0.out 1).trans rfl;have r8:=blk_frozen a0.out 0;have r9:=blk_frozen a0.out 1)|((with_reducible refine gate_callee (f:=34) rfl ?_);refine goesL_ (some 55) rfl rfl Try.func34 zqk rfl #[.agg #[.slice b0 a3.length a9,.slice a8 a2.length a7]] rfl zq1 ?_;(with_reducible refine(spec_KeepsOk.calls l6 _ _ a3 _ _ a2 false _ ?side1 ?side2 ?side3 ?side4 m1.out).mono ?_);(case side1=> exact zq48);(case side2=> exact zq189);(case side3=> exact zq47);(case side4=> exact zq188);rintro e v5 ⟨rfl,hb⟩;refine⟨_,rfl,?_⟩;replace HO_1113000:=zqm (Kd.S_below (zqfS HO_1113000.out) hb);replace HO_1113001:=zqm (Kd.Q_below (zqfQ HO_1113001.out) hb);replace a0:=zqm (blk_below (g:=a1) (o:= .cells #[.slice b0 a3.length a9,.slice a8 a2.length a7] 26 (0,0)) (zqe a0.out) hb);replace HB:=zqm (below_step zq4 hb);clear hb))
           go_ret
           exact⟨zq13,zq4⟩
   ·replace e1:=Bool.eq_false_iff.mpr e1;subst e1;rw [if_neg (show¬(false=true) by decide)] at H
    by_cases j8:b3=true
    ·subst j8;rw [if_pos rfl] at H;obtain rfl:=Option.some.inj H
     go_enter Try.func11,Try.ntmps11
     go_wp2_with (first|((with_reducible refine gate_callee (f:=55) rfl ?_);refine goesL_ (some 12) rfl rfl Try.func55 zqk rfl #[.slice A0 l0.length c0] rfl zq1 ?_;(with_reducible refine(spec_DrawAlwaysOk.calls k _ _ l0 a3 a2 b1 _ ?side1 ?side2 A3.out).mono ?_);(case side1=> exact zq89);(case side2=>exact j4.out);rintro e v6 ⟨h8,h9,rfl,d0,d4,hb⟩;refine⟨_,rfl,?_⟩;have a4:=zqm (Kd.S_lower d0 (below_size zq0));have a5:=zqm (Kd.Q_lower d4 (below_size zq0));replace HB:=zqm (below_step zq0 hb);clear hb d0 d4)|((with_reducible refine gate_dst (N:=3) rfl ?_);(try(refine gate_guard (by rfl) ?_;dsimp only));refine box_event ?hg (N:=3) ?hd (cs:= #[.slice none 0 0,.slice none 0 0]) (t:=26) ?hr ?_;(case hd=>rfl);(case hg=>rfl);(case hr=> exact zq17);intro a1 hg n1 hbox hb;replace a4:=zqm (Kd.S_below (zqfS a4.out) hb);replace a5:=zqm (Kd.Q_below (zqfQ a5.out) hb);have d5:=zqm (below_step zq0 hb);have a0:=zqm (hbox);have e0:=zqm ((by rw [hg];exact(below_size zq0):w.heap.size≤a1));have a6:=zqm ((by rw [hg];exact(below_size zq0):w.heap.size≤a1));clear HB;have HB:=d5;clear d5 hb hbox hg;obtain⟨c8,b9,o1⟩:=Kd.S_slice a4.out;subst o1;have p8:n1.cell? ⟨a1,0,none⟩=some (.slice none 0 0):=(blk_cell a0.out 0).trans rfl;have p9:n1.cell? ⟨a1,1,none⟩=some (.slice none 0 0):=(blk_cell a0.out 1).trans rfl;have s0:=blk_frozen a0.out 0;have s1:=blk_frozen a0.out 1;obtain⟨c9,c7,o2,_⟩:=Kd.Q_slice a5.out;subst o2)|((with_reducible refine gate_callee (f:=56) rfl ?_);refine goesL_ (some 17) rfl rfl Try.func56 zqk rfl #[.agg #[.slice c8 a3.length b9,.slice c9 a2.length c7],.string b1] rfl zq1 ?_;(with_reducible refine(impl_AlwaysOk.calls _ _ a3 _ _ a2 b1 true _ ?side1 ?side2 ?side3 ?side4 A4.out).mono ?_);(case side1=>refine(Kd.S_reads' (e:=24) (base:=w.heap.size) (ok:=fun k_=>some k_≠(.slice c9 a2.length c7:Value).ownBlock) (n:=a3.length) (c:=b9) ?_).2.2;exact zq127);(case side2=> exact zq157);(case side3=>refine(Kd.Q_reads' (e:=3) (base:=w.heap.size) (ok:=fun k_=>True) (n:=a2.length) (c:=c7) ?_).2.2;exact zq108);(case side4=> exact zq156);rintro e n2 ⟨rfl,hb⟩;refine⟨_,rfl,?_⟩;replace a4:=zqm (Kd.S_below zq127 hb);replace a5:=zqm (Kd.Q_below zq108 hb);replace a0:=zqm (blk_below (g:=a1) (o:= .cells #[.slice c8 a3.length b9,.slice c9 a2.length c7] 26 (0,0)) (by refine zqe ?_;refine blk_put (cs:= #[.slice c8 a3.length b9,.slice none 0 0]) ?_ 1 _ rfl;refine zqe ?_;refine blk_put (cs:= #[.slice none 0 0,.slice none 0 0]) ?_ 0 _ rfl;refine zqe ?_;exact a0.out) hb);replace HB:=zqm (below_step zq4 hb);clear hb;have q0:n2.cell? ⟨a1,0,none⟩=some (.slice c8 a3.length b9):=(blk_cell a0.out 0).trans rfl;have q1:n2.cell? ⟨a1,1,none⟩=some (.slice c9 a2.length c7):=(blk_cell a0.out 1).trans rfl;have s2:=blk_frozen a0.out 0;have s3:=blk_frozen a0.out 1)|((with_reducible refine gate_callee (f:=57) rfl ?_);refine goesL_ (some 21) rfl rfl Try.func57 zqk rfl #[.agg #[.slice c8 a3.length b9,.slice c9 a2.length c7],.string b1] rfl zq1 ?_;(with_reducible refine(spec_AlwaysOk.calls k _ _ a3 _ _ a2 b1 b4 _ ?side1 ?side2 ?side3 ?side4 A5.out).mono ?_);(case side1=> exact zq42);(case side2=> exact zq157);(case side3=> exact zq41);(case side4=> exact zq156);rintro e n3 ⟨rfl,hb⟩;refine⟨_,rfl,?_⟩;replace a4:=zqm (Kd.S_below (zqfS a4.out) hb);replace a5:=zqm (Kd.Q_below (zqfQ a5.out) hb);replace a0:=zqm (blk_below (g:=a1) (o:= .cells #[.slice c8 a3.length b9,.slice c9 a2.length c7] 26 (0,0)) (zqe a0.out) hb);replace HB:=zqm (below_step zq4 hb);clear hb;have q2:n3.cell? ⟨a1,0,none⟩=some (.slice c8 a3.length b9):=(blk_cell a0.out 0).trans rfl;have q3:n3.cell? ⟨a1,1,none⟩=some (.slice c9 a2.length c7):=(blk_cell a0.out 1).trans rfl;have s4:=blk_frozen a0.out 0;have s5:=blk_frozen a0.out 1)|((with_reducible refine gate_callee (f:=17) rfl ?_);refine goesL_ (some 24) rfl rfl Try.func17 zqk rfl #[.agg #[.slice c8 a3.length b9,.slice c9 a2.length c7]] rfl zq1 ?_;(with_reducible refine(spec_LogicOk.calls k _ _ a3 _ _ a2 false _ ?side1 ?side2 ?side3 ?side4 k3.out).mono ?_);(case side1=> exact zq42);(case side2=> exact zq157);(case side3=> exact zq41);(case side4=> exact zq156);rintro e v7 ⟨rfl,hb⟩;refine⟨_,rfl,?_⟩;replace a4:=zqm (Kd.S_below (zqfS a4.out) hb);replace a5:=zqm (Kd.Q_below (zqfQ a5.out) hb);replace a0:=zqm (blk_below (g:=a1) (o:= .cells #[.slice c8 a3.length b9,.slice c9 a2.length c7] 26 (0,0)) (zqe a0.out) hb);replace HB:=zqm (below_step zq4 hb);clear hb))
     go_ret
     exact⟨zq13,zq4⟩
    ·replace j8:=Bool.eq_false_iff.mpr j8;subst j8;rw [if_neg (show¬(false=true) by decide)] at H;replace H:=Option.bind_eq_some_iff.mp H;obtain⟨h6,l3,H⟩:=H;(try dsimp only at H);have t3:=zqm l3;clear l3;obtain rfl:=Option.some.inj H
     go_enter Try.func11,Try.ntmps11
     go_wp2_with (first|((with_reducible refine gate_callee (f:=55) rfl ?_);refine goesL_ (some 12) rfl rfl Try.func55 zqk rfl #[.slice A0 l0.length c0] rfl zq1 ?_;(with_reducible refine(spec_DrawAlwaysOk.calls k _ _ l0 a3 a2 b1 _ ?side1 ?side2 A3.out).mono ?_);(case side1=> exact zq89);(case side2=>exact j4.out);rintro e v8 ⟨h8,h9,rfl,d0,d4,hb⟩;refine⟨_,rfl,?_⟩;have a4:=zqm (Kd.S_lower d0 (below_size zq0));have a5:=zqm (Kd.Q_lower d4 (below_size zq0));replace HB:=zqm (below_step zq0 hb);clear hb d0 d4)|((with_reducible refine gate_dst (N:=3) rfl ?_);(try(refine gate_guard (by rfl) ?_;dsimp only));refine box_event ?hg (N:=3) ?hd (cs:= #[.slice none 0 0,.slice none 0 0]) (t:=26) ?hr ?_;(case hd=>rfl);(case hg=>rfl);(case hr=> exact zq17);intro a1 hg n4 hbox hb;replace a4:=zqm (Kd.S_below (zqfS a4.out) hb);replace a5:=zqm (Kd.Q_below (zqfQ a5.out) hb);have d5:=zqm (below_step zq0 hb);have a0:=zqm (hbox);have e0:=zqm ((by rw [hg];exact(below_size zq0):w.heap.size≤a1));have a6:=zqm ((by rw [hg];exact(below_size zq0):w.heap.size≤a1));clear HB;have HB:=d5;clear d5 hb hbox hg;obtain⟨b7,b5,o3⟩:=Kd.S_slice a4.out;subst o3;have q4:n4.cell? ⟨a1,0,none⟩=some (.slice none 0 0):=(blk_cell a0.out 0).trans rfl;have q5:n4.cell? ⟨a1,1,none⟩=some (.slice none 0 0):=(blk_cell a0.out 1).trans rfl;have s6:=blk_frozen a0.out 0;have s7:=blk_frozen a0.out 1;obtain⟨b8,b6,o4,_⟩:=Kd.Q_slice a5.out;subst o4)|((with_reducible refine gate_callee (f:=56) rfl ?_);refine goesL_ (some 17) rfl rfl Try.func56 zqk rfl #[.agg #[.slice b7 a3.length b5,.slice b8 a2.length b6],.string b1] rfl zq1 ?_;(with_reducible refine(impl_AlwaysOk.calls _ _ a3 _ _ a2 b1 false _ ?side1 ?side2 ?side3 ?side4 A4.out).mono ?_);(case side1=>refine(Kd.S_reads' (e:=24) (base:=w.heap.size) (ok:=fun k_=>some k_≠(.slice b8 a2.length b6:Value).ownBlock) (n:=a3.length) (c:=b5) ?_).2.2;exact zq126);(case side2=> exact zq157);(case side3=>refine(Kd.Q_reads' (e:=3) (base:=w.heap.size) (ok:=fun k_=>True) (n:=a2.length) (c:=b6) ?_).2.2;exact zq107);(case side4=> exact zq156);rintro e n5 ⟨rfl,hb⟩;refine⟨_,rfl,?_⟩;replace a4:=zqm (Kd.S_below zq126 hb);replace a5:=zqm (Kd.Q_below zq107 hb);replace a0:=zqm (blk_below (g:=a1) (o:= .cells #[.slice b7 a3.length b5,.slice b8 a2.length b6] 26 (0,0)) (by refine zqe ?_;refine blk_put (cs:= #[.slice b7 a3.length b5,.slice none 0 0]) ?_ 1 _ rfl;refine zqe ?_;refine blk_put (cs:= #[.slice none 0 0,.slice none 0 0]) ?_ 0 _ rfl;refine zqe ?_;exact a0.out) hb);replace HB:=zqm (below_step zq4 hb);clear hb;have q6:n5.cell? ⟨a1,0,none⟩=some (.slice b7 a3.length b5):=(blk_cell a0.out 0).trans rfl;have q7:n5.cell? ⟨a1,1,none⟩=some (.slice b8 a2.length b6):=(blk_cell a0.out 1).trans rfl;have s8:=blk_frozen a0.out 0;have s9:=blk_frozen a0.out 1)|((with_reducible refine gate_callee (f:=57) rfl ?_);refine goesL_ (some 21) rfl rfl Try.func57 zqk rfl #[.agg #[.slice b7 a3.length b5,.slice b8 a2.length b6],.string b1] rfl zq1 ?_;(with_reducible refine(spec_AlwaysOk.calls k _ _ a3 _ _ a2 b1 b4 _ ?side1 ?side2 ?side3 ?side4 A5.out).mono ?_);(case side1=> exact zq42);(case side2=> exact zq157);(case side3=> exact zq41);(case side4=> exact zq156);rintro e n6 ⟨rfl,hb⟩;refine⟨_,rfl,?_⟩;replace a4:=zqm (Kd.S_below (zqfS a4.out) hb);replace a5:=zqm (Kd.Q_below (zqfQ a5.out) hb);replace a0:=zqm (blk_below (g:=a1) (o:= .cells #[.slice b7 a3.length b5,.slice b8 a2.length b6] 26 (0,0)) (zqe a0.out) hb);replace HB:=zqm (below_step zq4 hb);clear hb;have q8:n6.cell? ⟨a1,0,none⟩=some (.slice b7 a3.length b5):=(blk_cell a0.out 0).trans rfl;have q9:n6.cell? ⟨a1,1,none⟩=some (.slice b8 a2.length b6):=(blk_cell a0.out 1).trans rfl;have t0:=blk_frozen a0.out 0;have t1:=blk_frozen a0.out 1)|((with_reducible refine gate_callee (f:=17) rfl ?_);refine goesL_ (some 24) rfl rfl Try.func17 zqk rfl #[.agg #[.slice b7 a3.length b5,.slice b8 a2.length b6]] rfl zq1 ?_;(with_reducible refine(spec_LogicOk.calls k _ _ a3 _ _ a2 false _ ?side1 ?side2 ?side3 ?side4 k3.out).mono ?_);(case side1=> exact zq42);(case side2=> exact zq157);(case side3=> exact zq41);(case side4=> exact zq156);rintro e v9 ⟨rfl,hb⟩;refine⟨_,rfl,?_⟩;replace a4:=zqm (Kd.S_below (zqfS a4.out) hb);replace a5:=zqm (Kd.Q_below (zqfQ a5.out) hb);replace a0:=zqm (blk_below (g:=a1) (o:= .cells #[.slice b7 a3.length b5,.slice b8 a2.length b6] 26 (0,0)) (zqe a0.out) hb);replace HB:=zqm (below_step zq4 hb);clear hb)|(go_at_call 18;(with_reducible refine(laws_alive.calls k h6 _ t3.out).mono ?_);rintro e w0 ⟨rfl,hb⟩;replace a4:=zqm (Kd.S_below (zqfS a4.out) hb);replace a5:=zqm (Kd.Q_below (zqfQ a5.out) hb);replace a0:=zqm (blk_below (g:=a1) (o:= .cells #[.slice b7 a3.length b5,.slice b8 a2.length b6] 26 (0,0)) (zqe a0.out) hb);replace HB:=zqm (below_step zq4 hb);clear hb))
     go_ret
     exact⟨zq13,zq4⟩
def laws_FnAlwaysOk.Pure : Prop := ∀ (l0 : List Int), l0.length ≤ maxLen → l0.length * 1 ≤ 140737488351232 → (∀ x ∈ l0, (Lit.int .u8 x).wf = true) → ∃ k, laws_FnAlwaysOk.f k l0 = some true
theorem laws_FnAlwaysOk.walk (P : laws_FnAlwaysOk.Pure) (a0 : Option Addr) (len0 cap0 : Nat) (z0 : List Int) (w : World) (w0 : (a0 = none ∧ len0 = 0 ∧ cap0 = 0 ∧ z0 = []) ∨ ∃ x, a0 = some x ∧ len0 ≤ cap0 ∧ cap0 ≤ maxLen ∧ z0.length = cap0 ∧ (∀ i, i < z0.length → w.cell? (x.add i) = some (.int .u8 (z0.getD i 0))) ∧ ∀ n ∈ z0, (Lit.int .u8 n).wf = true) (y0 : len0 * 1 ≤ 140737488351232) :
  Calls Try.prog 11 #[.slice a0 len0 cap0] w fun e w' => e = .returned (.bool true) ∧ Below w.heap.size w w' := by
 obtain ⟨l0, rfl, hr0, hm0, hw0, hc0⟩ := ReadsInt.ofRowC w0
 obtain ⟨k, h⟩ := P l0 hm0 y0 hw0
 refine (laws_FnAlwaysOk.calls k _ _ l0 true w (Kd.C_of_reads (d := (0 : Int)) (h1 := fun _ => rfl) hr0) hc0 h).mono ?_
 rintro e w' ⟨rfl, hd⟩
 exact ⟨rfl, hd⟩
end Go.Proofs.Ytcbjpdaogicibaa.Print
end
section
namespace Go.Proofs.Ytcbjpdaogicibaa.Print
open Go.RowKit Go.Proofs.YtcbjpdaogicibaaW.PrintWords Go.Proofs.YtcbjpdaogicibaaW.PrintLast Go.Proofs.YtcbjpdaogicibaaW.PrintMore
open Oml
theorem drawAlwaysOk_ev {l : List Int} (h : Bytes l) : ∃ V M s, Ev (fun k => spec_DrawAlwaysOk.f k l) (V, M, s) := by
 obtain⟨b,hb,hbl,ho⟩:=open_ev h
 obtain⟨V,M,q,hd,q0,q1⟩:=logic_ev hb hbl (p:=0) (by omega) (by omega) 14
 obtain⟨s,r,hs,r0,r1,s1⟩:=formed_ev hb hbl (p:=q) (by omega) (by omega) 14
 unfold spec_DrawAlwaysOk.f
 exact⟨V,M,s,Ev.pbind ho (Ev.bind hd (Ev.bind hs (Ev.now _)))⟩
theorem laws_FnAlwaysOk.ev (l : List Int) (h : Bytes l) : Ev (fun k => laws_FnAlwaysOk.f k l) true := by
 unfold laws_FnAlwaysOk.f
 by_cases hl:(l.length:Int)>1048576
 ·exact Ev.ite_pos hl (Ev.now _)
 refine Ev.ite_neg hl ?_
 obtain⟨V,M,s,hd⟩:=drawAlwaysOk_ev h
 refine Ev.bind hd (Ev.pbind rfl (Ev.bind (spec_AlwaysOk.ev V M s) ?_))
 dsimp only
 refine Ev.ite_neg (bne_self' _) (Ev.bind (spec_LogicOk.ev V M) ?_)
 have hno: ∀o p,logicB V M=false→sameO V M o p=false:=fun o p e=>by
  cases o <;> cases p <;> first|rfl|(show (logicB V M && _)=false;rw [e];rfl)
 cases hg:logicB V M with
 |false=>exact Ev.ite_neg (by simp) (Ev.ite_neg (by rw [hno _ _ hg];simp) (Ev.bind alive_ok (Ev.now _)))
 |true=>
 have L:=logicB_iff.1 hg
 have hs:=L.small
 have hp:=L.pos
 have e1:impl_BlocksOf.f V M=some (blkL V M):=by unfold impl_BlocksOf.f;rw [hg,if_pos rfl]
 have e2:impl_YesOf.f V M=some (yesI V M):=by unfold impl_YesOf.f;rw [hg,if_pos rfl]
 have e3: ∀f h:Fm,sameO V M (some f) (some h)=sameB V M f h:=fun f h=>by show (logicB V M && _)=_;rw [hg,Bool.true_and]
 have a1:sameO V M (fmOf ⟨#[40,97,124,33,97,41]⟩) (fmOf ⟨#[49]⟩)=true:=by rw [fm_em,fm_1,e3,always_or L]
 have a2:sameO V M (fmOf ⟨#[33,40,97,38,33,97,41]⟩) (fmOf ⟨#[49]⟩)=true:=by rw [fm_nc,fm_1,e3,always_not L]
 have hlen:(blkL V M).length=(blkS V M).length:=by rw [blkL_eq,List.length_map];rfl
 have hend:Ev (fun k=>laws_FnAlwaysOk.j1 k false V M) true:=by
  refine Ev.succ ?_
  simp only [laws_FnAlwaysOk.j1]
  refine Ev.ite_neg (by simp) (Ev.pbind rfl (Ev.bind (spec_KeepsOk.ev V M) ?_))
  rw [if_pos hg]
  cases hk:keepB V M with
  |false=>exact Ev.ite_neg (by simp) (Ev.now _)
  |true=>
   refine Ev.ite_pos rfl (Ev.pbind e1 ?_)
   have:(sameO V M (fmOf ⟨#[40,40,97,38,98,41,124,40,40,97,38,33,98,41,124,40,40,33,97,38,98,41,124,40,33,97,38,33,98,41,41,41,41]⟩) (fmOf ⟨#[49]⟩)==(((blkL V M).length:Int)==1))=true:=by
    rw [fm_whole,fm_1,e3,always_whole L ((keepB_iff L).1 hk),hlen,beq_iff_eq,Bool.eq_iff_iff,decide_eq_true_eq,beq_iff_eq]
    omega
   exact Ev.eq (Ev.now _) this
 refine Ev.ite_pos rfl (Ev.pbind rfl (Ev.ite_pos a1 (Ev.pbind rfl ?_)))
 rw [a2]
 refine Ev.succ ?_
 simp only [laws_FnAlwaysOk.j0]
 refine Ev.ite_neg (by simp) ?_
 cases ho:sameO V M (fmOf s) (fmOf ⟨#[49]⟩) with
 |false=>exact Ev.ite_neg (by simp) hend
 |true=>
  refine Ev.ite_pos rfl ?_
  obtain⟨f,hf⟩: ∃f,fmOf s=some f:=by
   cases hf:fmOf s with
   |none=>rw [hf] at ho;exact absurd ho (by cases fmOf ⟨#[49]⟩ <;> simp [sameO])
   |some f=>exact⟨f,rfl⟩
  rw [hf,fm_1,e3,sameB_iff L] at ho
  have hw:wrap64 ((M.length:Int) - 1)=(((⟨V.length - 1,by omega⟩:Fin V.length).1:Nat):Int):=by rw [L.len,wrap_small (by omega) (by omega)];show _=((V.length - 1:Nat):Int);omega
  have h0:(0:Int)=(((⟨0,hp⟩:Fin V.length).1:Nat):Int):=rfl
  have hv:impl_ValueOf.f V M s 0 (wrap64 ((M.length:Int) - 1)) 0=some (yesI V M):=by
   have h2:=ho ⟨0,hp⟩ ⟨V.length - 1,by omega⟩ ⟨0,hp⟩
   have h3:=val_fin L ⟨0,hp⟩ ⟨V.length - 1,by omega⟩ ⟨0,hp⟩ f
   rw [h2] at h3
   have h4:valO L ⟨0,hp⟩ ⟨V.length - 1,by omega⟩ ⟨0,hp⟩ (.leaf 49)=L.ol.top:=rfl
   rw [h4,← yes_fin L] at h3
   have h5:=inR_three (U:=V) ⟨0,hp⟩ ⟨V.length - 1,by omega⟩ ⟨0,hp⟩
   rw [hw]
   unfold impl_ValueOf.f
   rw [hf]
   show some (if logicB V M=true then _ else _)=_
   rw [if_pos hg]
   congr 1
   rw [← h3]
   exact if_pos h5
  refine Ev.pbind hv (Ev.pbind e2 ?_)
  have:(yesI V M !=yesI V M)=false:=by simp
  rw [this]
  exact hend
end Go.Proofs.Ytcbjpdaogicibaa.Print
namespace Go.Proofs.Ytcbjpdaogicibaa.Pure
open Go.RowKit Go.Proofs.Ytcbjpdaogicibaa.Print Go.Proofs.YtcbjpdaogicibaaW.PrintWords Go.Proofs.YtcbjpdaogicibaaW.PrintLast Go.Proofs.YtcbjpdaogicibaaW.PrintMore
theorem FnAlwaysOk : laws_FnAlwaysOk.Pure := fun l _ _ hw => (laws_FnAlwaysOk.ev l fun x hx => by
 have:=hw x hx
 first|exact Go.RowKit.bounds_u8 this|exact Go.ChangeShapes.bounds_u8 this|exact bounds_u8 this|(simp [Lit.wf,IntKind.wf] at this;omega)|(simp [Lit.wf] at this;omega)).rounds
end Go.Proofs.Ytcbjpdaogicibaa.Pure
end
