/- Part 1 of what this is proved by: for every text of bytes the law of PentagonOf answers true -/
import Derived.Test.YtdoomkcgdcfmlaaLB7
import Derived.Below
import Derived.Deep.Draws
import Derived.Deep.AppendLies
import Derived.Maps.AppendAt
import Derived.OwnWalk
import Derived.Laws.BytesArg
import Derived.Laws.MakeOwn
import Derived.Laws.OwnMore
import Derived.Deep.OwnRows
import Derived.Tactics
import Derived.Lib.ConvBytes
import Derived.Laws.Slices
import Derived.WalkKit
import Derived.KernelRfl
import Derived.RowKit3
import Derived.Deep.LoopGhost
import Derived.Deep.QuietTactic
import Derived.BigQuiet
import Derived.WideLaws
import Derived.Deep.DeepCutAuto
import Derived.Deep.CutBlock
import Derived.Deep.RegionHeld3
import Derived.Laws.Rows
import Derived.Lib.AppendStr
import Derived.ArgAppend
import Derived.Laws.IdiomCopy
import Derived.RowKit
import Derived.Test.YtdoomkcgdcfmlaaProg
import Derived.OrdersHeld
import Derived.Laws.BitsLemmas
import Derived.ProofKit
import Derived.OpenShut
set_option linter.all false
section
namespace Go.Proofs.YtdoomkcgdcfmlaaW.PrintWords
open Go.RowKit
def nums (k : IntKind) (xs : List Int) : List Value := xs.map fun x => .int k x
theorem own_lit (W : World) (base : Nat) (e : TypeId) (k : IntKind) (xs : List Int) (hb : base ≤ W.heap.size) (hm : xs.length ≤ 9223372036854775807) :
    (W.alloc (.cells (nums k xs).toArray e)).ownsRow base e 1 (.slice (some ⟨W.heap.size,0,none⟩) xs.length xs.length) xs.length (nums k xs):=by
  have h:=World.ownsRow_lit (base:=base) (e:=e) (size:=1) W (nums k xs).toArray xs.length hb (by simpa [maxLen] using hm) (by simp [nums])
  simpa using h
theorem ReadsInt.drewN {W : World} {k : IntKind} {A : Option Addr} {n : Nat} {xs : List Int} (h : ReadsInt W k A n xs) (m : Nat) : ReadsInt (W.drewN m) k A n xs := h
theorem ReadsOf.drewN {α : Type} {enc : α → Value} {d : α} {W : World} {A : Option Addr} {n : Nat} {xs : List α} (h : ReadsOf enc d W A n xs) (m : Nat) : ReadsOf enc d (W.drewN m) A n xs := h
inductive Vals (P : Program) (tmps : Array Value) (w : World) : List ResultVar → List Value → Prop where
  |nil:Vals P tmps w [] []
  |tmp {u:Tmp} {rs:List ResultVar} {vs:List Value} (h:Vals P tmps w rs vs):Vals P tmps w (.tmp u :: rs) (tmps.getD u undef :: vs)
  | cell {p : Tmp} {ty : TypeId} {rs : List ResultVar} {vs : List Value} (g : Nat) (t : TypeId) (cs : Array Value) (fr : Nat × Nat) (d : TypeDesc)
      (hp:tmps.getD p undef= .pointer (some ⟨g,0,none⟩)) (hg:w.heap[g]? =some (.cells cs t fr))
      (hu:P.underlying ty=some d) (hd:(match d with| .struct _| .array _ _=>true|_=>false)=true) (hi:(P.info? ty).map (·.size)=some cs.size)
      (h:Vals P tmps w rs vs):Vals P tmps w (.cell p ty :: rs) (.agg cs :: vs)
section
variable {P : Program} {tmps : Array Value} {w : World}
theorem vals_run {rs : List ResultVar} {vs : List Value} (hv : Vals P tmps w rs vs) (f : ResultVar → Sem Value) (hf : ∀ u, f (.tmp u) = pure (tmps.getD u undef)) (hc : ∀ a t, f (.cell a t) = (do loadVar t (← asAddr (tmps.getD a undef)))) :
    (rs.mapM f).run P w= .ok vs w:=by
  induction hv with
  |nil=>simp
  |tmp h ih=>simp [List.mapM_cons,hf,ih]
  | cell g t cs fr d hp hg hu hd hi h ih =>
    rw [List.mapM_cons,hc,hp]
    simp [asAddr,run_loadVar_row w g t _ cs fr d hg hu hd hi,ih]
theorem results_list {fn : Func} {rs : List ResultVar} {vs : List Value} (h : fn.results = rs.toArray) (hl : vs.length ≠ 1) (hv : Vals P tmps w rs vs) : (results fn tmps).run P w = .ok (.tuple vs.toArray) w := by
  unfold results
  rw [h,List.mapM_toArray]
  simp only [Sem.run_bind,Sem.run_map]
  rw [vals_run hv]
  · simp [hl]
  · intro u
    rfl
  · intro a t
    rfl
end
end Go.Proofs.YtdoomkcgdcfmlaaW.PrintWords
end
section
namespace Go.Proofs.YtdoomkcgdcfmlaaW.PrintWords
open Go.RowKit
section
variable {w W W2 : World} {S S2 S' : Nat → Prop}
theorem Kept.drewN (h : Kept w W S) (m : Nat) : Kept w (W.drewN m) S := h
end
end Go.Proofs.YtdoomkcgdcfmlaaW.PrintWords
end
section
namespace Go.Proofs.Ytdoomkcgdcfmlaa
variable {p : Prop}
theorem zq9 (h:p:=by repeat(first|(with_reducible first|exact HB.out|apply below_alloc|apply pw_below_drewN|apply below_drew1|refine below_set ?_ a8.out)|exact HB.out)):p:=h
theorem zq52 (h:p:=by (with_reducible repeat(first|refine blk_drewN ?_ _|refine blk_drew ?_|refine blk_alloc ?_ _));refine blk_put (cs:= #[.slice b7 a5.length b8,.slice none 0 0]) ?_ 1 _ rfl;(with_reducible repeat(first|refine blk_drewN ?_ _|refine blk_drew ?_|refine blk_alloc ?_ _));refine blk_put (cs:= #[.slice none 0 0,.slice none 0 0]) ?_ 0 _ rfl;(with_reducible repeat(first|refine blk_drewN ?_ _|refine blk_drew ?_|refine blk_alloc ?_ _));exact a0.out):p:=h
theorem zq54 (h:p:=by repeat(first|exact(Kd.C_below a9.out (by repeat(first|(with_reducible first|exact HB.out|apply below_alloc|apply pw_below_drewN|apply below_drew1|refine below_set ?_ a8.out)|exact HB.out)))|(with_reducible refine Kd.C_alloc ?_ _)|(with_reducible refine Kd.C_drewN ?_ _)|(with_reducible refine Kd.C_drew ?_))):p:=h
theorem zq57 (h:p:=by repeat(first|exact(Kd.C_below a9.out HB.out)|(with_reducible refine Kd.C_alloc ?_ _)|(with_reducible refine Kd.C_drewN ?_ _)|(with_reducible refine Kd.C_drew ?_))):p:=h
theorem zq77 (h:p:=by repeat(first|(with_reducible exact a7.out)|(with_reducible refine Kd.C_alloc ?_ _)|(with_reducible refine Kd.C_drewN ?_ _)|(with_reducible refine Kd.C_drew ?_)|exact a7.out)):p:=h
theorem zq78 (h:p:=by repeat(first|exact(Kd.Q_reads' HO_817001.out).2.2|(with_reducible refine Kd.C_alloc ?_ _)|(with_reducible refine Kd.C_drewN ?_ _)|(with_reducible refine Kd.C_drew ?_))):p:=h
theorem zq79 (h:p:=by repeat(first|exact(Kd.S_reads' HO_817000.out).2.2|(with_reducible refine Kd.C_alloc ?_ _)|(with_reducible refine Kd.C_drewN ?_ _)|(with_reducible refine Kd.C_drew ?_))):p:=h
theorem zq80 (h:p:=by (with_reducible repeat(first|apply Kd.Q_alloc|apply Kd.Q_drewN|apply Kd.Q_drew));exact Kd.Q_mono (Kd.Q_far (p:=⟨a1,1,none⟩) (Kd.Q_far (p:=⟨a1,0,none⟩) (Kd.Q_types b6.out a0.out (by decide)) (fun _ hk=>hk.2) (.slice b7 a5.length b8)) (fun _ hk=>hk.2) (.slice b2 a8.length b3)) (fun _ hk=>trivial)):p:=h
theorem zq82 (h:p:=by repeat(first|(with_reducible first|exact HB.out|apply below_alloc|apply pw_below_drewN|apply below_drew1|refine below_set ?_ (IsS87.ge a2.out)|refine below_set ?_ a4.out)|exact HB.out)):p:=h
theorem zq83 (h:p:=by (with_reducible repeat(first|apply Kd.S_alloc|apply Kd.S_drewN|apply Kd.S_drew));exact Kd.S_mono (Kd.S_far (p:=⟨a1,1,none⟩) (Kd.S_far (p:=⟨a1,0,none⟩) (Kd.S_types b5.out a0.out (by decide)) (fun _ hk=>hk.2) (.slice b7 a5.length b8)) (fun _ hk=>hk.2) (.slice b2 a8.length b3)) (fun _ hk=>hk.1)):p:=h
theorem zq110 (h:p:=by (with_reducible repeat(first|apply Kd.Q_alloc|apply Kd.Q_drewN|apply Kd.Q_drew));exact HO_817001.out):p:=h
theorem zq111 (h:p:=by (with_reducible repeat(first|apply Kd.S_alloc|apply Kd.S_drewN|apply Kd.S_drew));exact HO_817000.out):p:=h
theorem zq162 (h:p:=by (try simp only [List.map_toArray,List.map_cons,List.map_nil]);first|done|(simp only [c6];rfl)|rfl|(simp only [List.length_drop,List.length_take];rfl)):p:=h
theorem zq163 (h:p:=by (try simp only [List.map_toArray,List.map_cons,List.map_nil]);first|done|(simp only [c1];rfl)|rfl|(simp only [List.length_drop,List.length_take];rfl)):p:=h
theorem zq172 (h:p:=by (with_reducible repeat(first|apply Kd.R_alloc|apply Kd.R_drewN|apply Kd.R_drew));exact b4.out):p:=h
theorem zq241 (h:p:=by (with_reducible repeat(first|apply Kd.S_alloc|apply Kd.S_drewN|apply Kd.S_drew));exact(Kd.S_mono (Kd.S_far (p:=⟨a8,1,none⟩) (Kd.S_far (p:=⟨a8,0,none⟩) (Kd.S_types b9.out a1.out (by decide)) (fun _ hk=>hk.2) (.slice c7 a0.length b5)) (fun _ hk=>hk.2) (.slice b0 a2.length a9)) (fun _ h_=>h_.1))):p:=h
theorem zq256 (h:p:=by (with_reducible repeat(first|apply Kd.Q_alloc|apply Kd.Q_drewN|apply Kd.Q_drew));exact(Kd.Q_mono (Kd.Q_far (p:=⟨a8,1,none⟩) (Kd.Q_far (p:=⟨a8,0,none⟩) (Kd.Q_types c5.out a1.out (by decide)) (fun _ hk=>hk.2) (.slice c7 a0.length b5)) (fun _ hk=>hk.2) (.slice b0 a2.length a9)) (fun _ h_=>h_.1))):p:=h
theorem zq278 (h:p:=by (with_reducible repeat(first|apply Kd.S_alloc|apply Kd.S_drewN|apply Kd.S_drew));exact b9.out):p:=h
theorem zq281 (h:p:=by (with_reducible repeat(first|apply Kd.Q_alloc|apply Kd.Q_drewN|apply Kd.Q_drew));exact c5.out):p:=h
theorem zq284 (h:p:=by repeat(first|exact HB3.out|apply pw_below_drewN|apply below_drew1)):p:=h
theorem zq303 (h:p:=by repeat(first|exact HB2.out|apply pw_below_drewN|apply below_drew1)):p:=h
theorem zq314 (h:p:=by repeat(first|exact HBb.out|apply below_alloc|apply pw_below_drewN|apply below_drew1)):p:=h
theorem zq324 (h:p:=by (try simp only [List.map_toArray,List.map_cons,List.map_nil]);first|done|rfl):p:=h
theorem zq327 (h:p:=by repeat (first | exact HB1.out | apply below_alloc | apply pw_below_drewN | apply below_drew1)):p:=h
theorem zq336 (h:p:=by repeat(first|exact Below.refl _ _|apply pw_below_drewN|apply below_drew1)):p:=h
theorem zq340 (h:p:=by (try simp only [List.map_toArray, List.map_cons, List.map_nil]); first | done | rfl):p:=h
theorem zq344 (h:p:=by repeat(first|(with_reducible first|exact a2.out|apply IsS87.alloc|apply IsS87.drewN|apply IsS87.drew|apply IsS87.set_1|refine IsS87.far ?_ a6.out _)|exact a2.out)):p:=h
theorem zq348 (h:p:=by repeat(first|exact(Kd.C_below e3.out HB.out)|(with_reducible refine Kd.C_alloc ?_ _)|(with_reducible refine Kd.C_drewN ?_ _)|(with_reducible refine Kd.C_drew ?_))):p:=h
theorem zq365 (h:p:=by repeat (first | exact HB3.out | apply below_alloc | apply pw_below_drewN | apply below_drew1)):p:=h
theorem zq382 (h:p:=by first|exact d5|exact zqo|(have e_:=(Kd.S_reads' HO_817000.out).1;omega)):p:=h
theorem zq386 (h:p:=by (with_reducible repeat (first | apply Kd.R_alloc | apply Kd.R_drewN | apply Kd.R_drew)); exact HO1.out):p:=h
theorem zq397 (h:p:=by repeat(first|exact Below.refl _ _|apply below_alloc|apply pw_below_drewN|apply below_drew1)):p:=h
theorem zq405 (h:p:=by first | (rw [← HSI.out]; exact HJj.out) | (rw [← HSI.out]; exact HD.out _ _ _ HJj.out)):p:=h
theorem zq407 (h:p:=by repeat(first|exact HBc.out|apply below_alloc|apply pw_below_drewN|apply below_drew1)):p:=h
theorem zq414 (h:p:=by repeat(first|exact HUC.out|(refine Kd.C_drewN ?_ _)|(refine Kd.C_drew ?_))):p:=h
theorem zq428 (h:p:=by repeat(first|exact HB4.out|apply pw_below_drewN|apply below_drew1)):p:=h
end Go.Proofs.Ytdoomkcgdcfmlaa
end
section
namespace Oml
universe u
namespace OL
variable {α : Type u} (L : OL α)
theorem meet_comm (a b : α) : L.meet a b = L.meet b a :=
  L.le_antisymm _ _ (L.le_meet _ _ _ (L.meet_r _ _) (L.meet_l _ _)) (L.le_meet _ _ _ (L.meet_r _ _) (L.meet_l _ _))
theorem meet_le_l {a b c : α} (h : L.le a c) : L.le (L.meet a b) c := L.le_trans _ _ _ (L.meet_l _ _) h
theorem meet_le_r {a b c : α} (h : L.le b c) : L.le (L.meet a b) c := L.le_trans _ _ _ (L.meet_r _ _) h
theorem le_join_l {a b c : α} (h : L.le c a) : L.le c (L.join a b) := L.le_trans _ _ _ h (L.join_l _ _)
theorem le_join_r {a b c : α} (h : L.le c b) : L.le c (L.join a b) := L.le_trans _ _ _ h (L.join_r _ _)
theorem meet_mono {a b c d : α} (h : L.le a c) (k : L.le b d) : L.le (L.meet a b) (L.meet c d) := L.le_meet _ _ _ (L.meet_le_l h) (L.meet_le_r k)
theorem join_mono {a b c d : α} (h : L.le a c) (k : L.le b d) : L.le (L.join a b) (L.join c d) := L.join_le _ _ _ (L.le_join_l h) (L.le_join_r k)
theorem join_eq_r (a b : α) : L.join a b = b ↔ L.le a b := by
  constructor
  · intro h; rw [← h]; exact L.join_l _ _
  · intro h; exact L.le_antisymm _ _ (L.join_le _ _ _ h (L.le_refl _)) (L.join_r _ _)
theorem join_eq_l (a b : α) : L.join a b = a ↔ L.le b a := by rw [L.join_comm]; exact L.join_eq_r b a
theorem meet_join_absorb (a b : α) : L.meet a (L.join a b) = a := (L.meet_eq_l _ _).2 (L.join_l _ _)
theorem join_meet_absorb (a b : α) : L.join a (L.meet a b) = a := (L.join_eq_l _ _).2 (L.meet_l _ _)
def Modular : Prop := ∀ a b c, L.le a c → L.join a (L.meet b c) = L.meet c (L.join a b)
variable {L}
theorem modular_iff_pentagon : L.Modular ↔ ∀ a c b, L.le a c → L.meet b a = L.meet b c → L.join b a = L.join b c → a = c := by
  constructor
  · intro M a c b h e1 e2
    have:=M a b c h
    rw [← e1,L.join_comm a b,e2,L.meet_comm b a,L.join_meet_absorb,L.join_comm b c,L.meet_join_absorb] at this
    exact this
  · intro h a b c hac
    have hxy : L.le (L.join a (L.meet b c)) (L.meet c (L.join a b)) :=
      L.join_le _ _ _ (L.le_meet _ _ _ hac (L.join_l _ _)) (L.le_meet _ _ _ (L.meet_r _ _) (L.le_join_r (L.meet_l _ _)))
    refine h _ _ b hxy ?_ ?_
    · apply L.le_antisymm
      · exact L.meet_mono (L.le_refl _) hxy
      · refine L.le_meet _ _ _ (L.meet_l _ _) (L.le_join_r (L.meet_mono (L.le_refl _) (L.meet_l _ _)))
    · apply L.le_antisymm
      · exact L.join_mono (L.le_refl _) hxy
      · refine L.join_le _ _ _ (L.join_l _ _) ?_
        refine L.meet_le_r (L.join_le _ _ _ (L.le_join_r (L.join_l _ _)) (L.join_l _ _))
end OL
end Oml
end
section
namespace Oml
theorem allN_false {n : Nat} {p : Nat → Bool} : allN n p = false ↔ ∃ i, i < n ∧ p i = false := by
  rw [← Bool.not_eq_true,allN_iff]
  constructor
  · intro h
    apply Classical.byContradiction
    intro k
    exact h fun i hi => by
      cases e:p i
      · exact absurd ⟨i,hi,e⟩ k
      · rfl
  · rintro ⟨i, hi, e⟩ h
    rw [h i hi] at e
    exact absurd e (by simp)
end Oml
end
section
namespace Go.Proofs.Ytdoomkcgdcfmlaa.Print
open Go.RowKit Go.Proofs.YtdoomkcgdcfmlaaW.PrintWords Go.Proofs.YtdoomkcgdcfmlaaW.PrintLast Go.Proofs.YtdoomkcgdcfmlaaW.PrintMore
open Oml
def inR (n : Nat) (a : Int) : Bool := decide (0 ≤ a) && decide (a < (n : Int))
theorem inR_iff {U : List (List Int)} {a : Int} : inR U.length a = true ↔ In U a := by simp [inR, In]
def leI (U : List (List Int)) (a b : Int) : Bool := leB U a.toNat b.toNat
section
variable {U : List (List Int)} {N : List Int} (L : Logic U N)
include L
theorem _root_.Oml.Logic.in_and {a b : Int} (ha : In U a) (hb : In U b) : In U (andI U a b) := by
  obtain⟨m,hm⟩:=Option.isSome_iff_exists.1 (L.meets a.toNat b.toNat (by have:=ha.1;have:=ha.2;omega) (by have:=hb.1;have:=hb.2;omega))
  have:=(findN_some hm).1
  unfold In andI mI;rw [hm];simp only [optI];omega
theorem _root_.Oml.Logic.in_or {a b : Int} (ha : In U a) (hb : In U b) : In U (orI U a b) := by
  obtain⟨m,hm⟩:=Option.isSome_iff_exists.1 (L.joins a.toNat b.toNat (by have:=ha.1;have:=ha.2;omega) (by have:=hb.1;have:=hb.2;omega))
  have:=(findN_some hm).1
  unfold In orI jI;rw [hm];simp only [optI];omega
theorem _root_.Oml.Logic.le_val {a b : Int} (ha : In U a) (hb : In U b) : at2 U a.toNat b.toNat = if leI U a b = true then 1 else 0 :=
  L.toOrder.val (by have := ha.1; have := ha.2; omega) (by have := hb.1; have := hb.2; omega)
end
namespace View
section
variable {W W1 : World} {g : Nat} {U : List (List Int)} {N : List Int} {v : Adr} (h : View W g U N v)
include h
theorem rowsU (L : Logic U N) : Kd.C (Kd.slice 3 (Kd.int .i64)) W (some v.aU) U.length U := by
  have hs:=L.small
  refine⟨rfl,by omega,fun _=>⟨v.aU,rfl,fun j p hp=>?_⟩⟩
  have hj:j<U.length:=(List.getElem?_eq_some_iff.1 hp).1
  have hin:In U (j:Int):=⟨by omega,by omega⟩
  have hpl : p.length = U.length := by
    have:=L.row j hj
    rw [List.getD_eq_getElem?_getD,hp] at this
    exact this
  refine⟨[.slice (some (v.rU j)) p.length (v.qU j)],rfl,⟨some (v.rU j),v.qU j,rfl,by rw [hpl];have:=h.capR _ hin;simpa using this,?_⟩,fun i u hu=>?_⟩
  · refine ⟨rfl, by omega, fun _ => ⟨v.rU j, rfl, fun i q hq => ?_⟩⟩
    have hi:i<p.length:=(List.getElem?_eq_some_iff.1 hq).1
    refine⟨[.int .i64 q],rfl,rfl,fun z u hu=>?_⟩
    have hz : z = 0 := by
      rcases z with _|z
      · rfl
      · simp at hu
    subst hz
    have hu':Value.int .i64 q=u:=by simpa using hu
    subst hu'
    have:=h.u2 j i hin ⟨by omega,by omega⟩
    simp only [Int.toNat_natCast] at this
    show W.cell? ((v.rU j).add (i*1+0))=_
    rw [Nat.mul_one,Nat.add_zero,this]
    simp [at2,List.getD_eq_getElem?_getD,hp,hq]
  · have hz : i = 0 := by
      rcases i with _|z
      · rfl
      · simp at hu
    subst hz
    have hu':Value.slice (some (v.rU j)) p.length (v.qU j)=u:=by simpa using hu
    subst hu'
    have:=h.u j hin
    simp only [Int.toNat_natCast] at this
    show W.cell? (v.aU.add (j*1+0))=_
    rw [Nat.mul_one,Nat.add_zero,this,hpl]
end
end View
end Go.Proofs.Ytdoomkcgdcfmlaa.Print
end
section
namespace Go.Proofs.Ytdoomkcgdcfmlaa.Print
open Go.RowKit Go.Proofs.YtdoomkcgdcfmlaaW.PrintWords Go.Proofs.YtdoomkcgdcfmlaaW.PrintLast Go.Proofs.YtdoomkcgdcfmlaaW.PrintMore
open Oml
theorem lit_C (W : World) (e : TypeId) (xs : List Int) (hm : xs.length ≤ 9223372036854775807) :
    Kd.C (Kd.int .i64) (W.alloc (.cells (nums .i64 xs).toArray e)) (some ⟨W.heap.size,0,none⟩) xs.length xs:=
  (Kd.R_reads' (Kd.R_of_own (ok:=fun _=>True) (own_lit W W.heap.size e .i64 xs (Nat.le_refl _) hm) (fun _ _=>trivial))).2.2
theorem isAnswer_eq (U : List (List Int)) (a : Int) : impl_isAnswer.f U a = some (inR U.length a) := by
  unfold impl_isAnswer.f inR
  by_cases h : a ≥ 0
  · rw [if_pos h]; simp [h]
  · rw [if_neg h]; simp; omega
theorem knows_nil (A : Option Addr) (n c : Nat) (w : World) :
    Calls Try.prog 78 #[.pointer none, .slice A n c] w fun e w' => e = .returned (.bool false) ∧ Below w.heap.size w w' := by
  go_enter Try.func78, Try.ntmps78
  go_wp2_with fail
  go_ret
  exact ⟨rfl, Below.refl _ _⟩
set_option maxHeartbeats 1000000 in
theorem knows_calls (g : Nat) (U : List (List Int)) (N : List Int) (v : Adr) (w : World) (L : Logic U N) (hV : View w g U N v) (A : Option Addr) (c : Nat) (xs : List Int) (n : Nat) (hn : xs.length = n)
    (hr:Kd.C (Kd.int .i64) w A n xs) (hs:n≤100) (b:Bool) (hb:xs.all (inR U.length)=b):
    Calls Try.prog 78 #[.pointer (some ⟨g,0,none⟩),.slice A n c] w fun e w'=>e= .returned (.bool b)∧Below w.heap.size w w':=by
  have hu70:=Try.underlying70
  have HV:=Aside0.mk hV
  have HR:=Aside0.mk hr
  have HL:=Aside0.mk L
  have HN:=Aside0.mk hn
  have HBB:=Aside0.mk hb
  clear hV hr L hn hb
  go_enter Try.func78,Try.ntmps78
  go_wp2_with fail
  go_loopg [11] (n+1) (fun kq v11 W=> ∃i m:Nat,v11= .int .i64 i∧Aside0 (i+kq=n+1)∧Aside0 (i≤n)∧Aside0 (∀j,j<i→inR U.length (at1 xs j)=true)∧W=w.drewN m)
  case atStart=>exact⟨0,0,rfl,⟨by omega⟩,⟨by omega⟩,⟨fun j hj=>absurd hj (by omega)⟩,rfl⟩
  case round =>
    obtain⟨i,m,rfl,HK,HK2,HS,rfl⟩:=hrel
    cases gk with
    |zero=>exact absurd HK.out (by have:=HK2.out;omega)
    |succ kn=>
    by_cases hlt:i<n
    · have hlt' : decide (i < n) = true := decide_eq_true hlt
      have HLT:=Aside0.mk hlt
      obtain⟨ad,e,hx⟩:=ints_cell HR.out i (by omega) (by omega)
      subst e
      simp only [Int.toNat_natCast] at hx
      have p1:(i<n)=True:=eq_true hlt
      have h0:=HV.out.f0
      have HUC:=Aside0.mk (HV.out.rowsU HL.out)
      clear hlt
      cases hi:inR U.length (at1 xs i) with
      | true =>
        have HI:=Aside0.mk hi
        have HA:=Aside0.mk (show impl_isAnswer.f U (at1 xs i)=some true by rw [isAnswer_eq,hi])
        clear hi
        go_wp2_with (go_at_call 123;(with_reducible refine(impl_isAnswer.calls _ _ U (at1 xs i) true _ ?s1 ?s2 HA.out).mono ?_);(case s1=> exact zq414);(case s2=>exact HV.out.capU);rintro e w' ⟨rfl,⟨nd,rfl⟩⟩)
        go_roundg kn
        case measure=>omega
        case rel => exact ⟨i + 1, _, by first | go_num | (rw [wrap_small (by omega) (by have := HLT.out; omega)]; go_num), ⟨by have := HK.out; omega⟩, ⟨by have := HLT.out; omega⟩, ⟨fun j hj => by
          rcases Nat.lt_or_ge j i with h|h
          · exact HS.out j h
          · obtain rfl : j = i := by omega
            exact HI.out⟩,rfl⟩
      | false =>
        have HI:=Aside0.mk hi
        have HA:=Aside0.mk (show impl_isAnswer.f U (at1 xs i)=some false by rw [isAnswer_eq,hi])
        clear hi
        have hbf : b = false := by
          rw [← HBB.out,Bool.eq_false_iff]
          intro h
          rw [List.all_eq_true] at h
          have hin:i<xs.length:=by have:=HN.out;have:=HLT.out;omega
          have:=h (xs[i]'hin) (List.getElem_mem _)
          have h2:=HI.out
          rw [show at1 xs i=xs[i]'hin by simp [at1,List.getD_eq_getElem?_getD,List.getElem?_eq_getElem hin],this] at h2
          exact absurd h2 (by simp)
        subst hbf
        go_wp2_with (go_at_call 123;(with_reducible refine(impl_isAnswer.calls _ _ U (at1 xs i) false _ ?s1 ?s2 HA.out).mono ?_);(case s1=> exact zq414);(case s2=>exact HV.out.capU);rintro e w' ⟨rfl,⟨nd,rfl⟩⟩)
        go_ret
        exact⟨rfl,zq336⟩
    · have hlt' : decide (i < n) = false := decide_eq_false hlt
      obtain rfl:i=n:=by have:=HK2.out;omega
      have hbt : b = true := by
        rw [← HBB.out,List.all_eq_true]
        intro x hx
        obtain⟨j,hj,rfl⟩:=List.mem_iff_getElem.1 hx
        have:=HS.out j (by have:=HN.out;omega)
        rwa [show at1 xs j=xs[j]'hj by simp [at1,List.getD_eq_getElem?_getD,List.getElem?_eq_getElem hj]] at this
      subst hbt
      clear hlt
      go_wp2_with fail
      go_ret
      exact⟨rfl,zq336⟩
theorem goesV_ {P : Program} {ops : Array Oper} {Q : Exit → Act → World → Prop} {rest : List Oper} {oi : Oper} {a : Act} {w : World} (N : Option Tmp) (hd : oi.dst = N) (hg : oi.guard = none) {f : FuncId} {fn : Func} {x : Operand} {xo : Array Operand} {ts : Array TypeId} {cs : Array Value}
    (hf : P.funcs[f]? = some fn) (hname : (fn.name == "runtime.NumGoroutine") = false) (hb : fn.body.isSome = true) (args : Array Value)
    (hop : oi.op = .call { callee := .value x, args := xo, argTypes := ts }) (hx : a.eval x = .func (.func f) #[] cs) (hargs : xo.map a.eval = args)
    (h : Calls P f (args ++ cs) w fun e w' => ∃ v, e = .returned v ∧ wpList P ops Q rest (a.put N v) w') : wpList P ops Q (oi :: rest) a w := by
  refine wpList_plain hg fun K hK => ?_
  have he := enters_ hf hname hb (args ++ cs) w
  have hrun : (execOp a.eval oi).run P w = .ok (.enter f (args ++ cs)) w := by
    unfold execOp
    simp [hop, resolve, Deferred.ofValue, invoke, hx, hargs, he]
  unfold Oper.wp
  rw [hrun, Oper.upon_enter]
  refine h.mono fun e w'' hh => ?_
  obtain ⟨v, rfl, hk⟩ := hh
  subst hd
  exact hK _ _ hk
set_option maxHeartbeats 1000000 in
set_option maxRecDepth 100000 in
theorem every_calls (g : Nat) (U : List (List Int)) (N : List Int) (v : Adr) (w : World) (hs : U.length ≤ 12) (fv : Nat) (fn : Func) (cs : Array Value) (hf : Try.prog.funcs[fv]? = some fn) (hname : (fn.name == "runtime.NumGoroutine") = false) (hb : fn.body.isSome = true)
    (p : Nat → Nat → Bool) (J : Nat → World → Prop) (hV : ∀ i w', J i w' → View w' g U N v) (hD : ∀ i w' n, J i w' → J i (w'.drewN n)) (h0 : J 0 w)
    (step : ∀ a b : Nat, a < U.length → b < U.length → ∀ w', J (a * U.length + b) w' → Calls Try.prog fv (#[.int .i64 a, .int .i64 b] ++ cs) w' fun e w'' => e = .returned (.bool (p a b)) ∧ J (a * U.length + b + 1) w'') :
    Calls Try.prog 87 #[.pointer (some ⟨g, 0, none⟩), .func (.func fv) #[] cs] w fun e w' =>
      e = .returned (.bool (allN U.length fun a => allN U.length fun b => p a b)) ∧ ∃ i, J i w' ∧ ((allN U.length fun a => allN U.length fun b => p a b) = true → i = U.length * U.length) := by
  obtain ⟨r, hr⟩ : ∃ r, r = allN U.length fun a => allN U.length fun b => p a b := ⟨_, rfl⟩
  rw [← hr]
  have hu70 := Try.underlying70
  have HF := Aside0.mk hf
  have HNM := Aside0.mk hname
  have HBD := Aside0.mk hb
  have HV := Aside0.mk hV
  have HD := Aside0.mk hD
  have HJ0 := Aside0.mk h0
  have HST := Aside0.mk step
  have HR := Aside0.mk hr
  have hf0 := (hV 0 w h0).f0
  clear hf hname hb hV hD h0 step hr
  go_enter Try.func87, Try.ntmps87
  go_wp2_with fail
  go_loopg [12] (U.length + 1) (fun kq v12 W => ∃ i s : Nat, v12 = .int .i64 i ∧ Aside0 (i + kq = U.length + 1) ∧ Aside0 (i ≤ U.length) ∧ Aside0 (s = i * U.length) ∧ Aside0 (∀ a, a < i → ∀ b, b < U.length → p a b = true) ∧ Aside0 (J s W))
  case atStart => exact ⟨0, 0, rfl, ⟨by omega⟩, ⟨by omega⟩, ⟨by simp⟩, ⟨fun j hj => absurd hj (by omega)⟩, ⟨by first | exact HJ0.out | exact HD.out _ _ _ HJ0.out⟩⟩
  case round =>
    clear hf0
    obtain ⟨i, s, rfl, HK, HK2, HSI, HS, HJ⟩ := hrel
    have hf0 := (HV.out _ _ HJ.out).f0
    cases gk with
    | zero => exact absurd HK.out (by have := HK2.out; omega)
    | succ kn =>
    by_cases hlt : i < U.length
    · have hlt' : decide (i < U.length) = true := decide_eq_true hlt
      have HLT := Aside0.mk hlt
      clear hlt
      go_wp2_with fail
      go_loopg [20] (U.length + 1) (fun kq v20 W => ∃ j : Nat, v20 = .int .i64 j ∧ Aside0 (j + kq = U.length + 1) ∧ Aside0 (j ≤ U.length) ∧ Aside0 (∀ b, b < j → p i b = true) ∧ Aside0 (J (s + j) W))
      case atStart => exact ⟨0, rfl, ⟨by omega⟩, ⟨by omega⟩, ⟨fun j hj => absurd hj (by omega)⟩, ⟨by first | exact HJ.out | exact HD.out _ _ _ HJ.out⟩⟩
      case round =>
        clear hf0
        obtain ⟨j, rfl, HKj, HKj2, HSj, HJj⟩ := hrel
        cases gk with
        | zero => exact absurd HKj.out (by have := HKj2.out; omega)
        | succ kj =>
        by_cases hlj : j < U.length
        · have hlj' : decide (j < U.length) = true := decide_eq_true hlj
          have HLJ := Aside0.mk hlj
          clear hlj
          cases hp : p i j with
          | true =>
            have HP := Aside0.mk hp
            clear hp
            go_wp2_with (refine goesV_ (some 26) rfl rfl HF.out HNM.out HBD.out #[.int .i64 i, .int .i64 j] rfl rfl zq340 ?_; refine (HST.out i j HLT.out HLJ.out _ ?sJ).mono ?_; (case sJ => exact zq405); rintro e w1 ⟨he, hj⟩; rw [HP.out] at he; subst he; refine ⟨_, rfl, ?_⟩; have HJ1 := Aside0.mk hj; clear hj)
            go_roundg kj
            case measure => omega
            case rel => exact ⟨j + 1, by first | go_num | (rw [wrap_small (by omega) (by have := HLJ.out; omega)]; go_num), ⟨by have := HKj.out; omega⟩, ⟨by have := HLJ.out; omega⟩, ⟨fun b hb => by
              rcases Nat.lt_or_ge b j with h | h
              · exact HSj.out b h
              · obtain rfl : b = j := by omega
                exact HP.out⟩, ⟨by have h1 := HJ1.out; rw [← HSI.out, Nat.add_assoc] at h1; first | exact h1 | exact HD.out _ _ _ h1⟩⟩
          | false =>
            have HP := Aside0.mk hp
            clear hp
            have hrf : r = false := by
              rw [HR.out]
              exact allN_false.2 ⟨i, HLT.out, allN_false.2 ⟨j, HLJ.out, HP.out⟩⟩
            subst hrf
            go_wp2_with (refine goesV_ (some 26) rfl rfl HF.out HNM.out HBD.out #[.int .i64 i, .int .i64 j] rfl rfl zq340 ?_; refine (HST.out i j HLT.out HLJ.out _ ?sJ).mono ?_; (case sJ => exact zq405); rintro e w1 ⟨he, hj⟩; rw [HP.out] at he; subst he; refine ⟨_, rfl, ?_⟩; have HJ1 := Aside0.mk hj; clear hj)
            go_ret
            exact ⟨rfl, _, by first | exact HJ1.out | exact HD.out _ _ _ HJ1.out, fun h => by cases h⟩
        · have hlj' : decide (j < U.length) = false := decide_eq_false hlj
          obtain rfl : j = U.length := by have := HKj2.out; omega
          clear hlj
          go_wp2_with fail
          go_roundg kn
          case measure => omega
          case rel => exact ⟨i + 1, s + U.length, by first | go_num | (rw [wrap_small (by omega) (by have := HLT.out; omega)]; go_num), ⟨by have := HK.out; omega⟩, ⟨by have := HLT.out; omega⟩, ⟨by rw [Nat.succ_mul, HSI.out]⟩, ⟨fun a ha => by
            rcases Nat.lt_or_ge a i with h | h
            · exact HS.out a h
            · obtain rfl : a = i := by omega
              exact HSj.out⟩, ⟨by first | exact HJj.out | exact HD.out _ _ _ HJj.out⟩⟩
    · have hlt' : decide (i < U.length) = false := decide_eq_false hlt
      obtain rfl : i = U.length := by have := HK2.out; omega
      have hrt : r = true := by
        rw [HR.out, allN_iff]
        intro a ha
        exact allN_iff.2 (HS.out a ha)
      subst hrt
      clear hlt
      go_wp2_with fail
      go_ret
      have hj := HJ.out
      rw [HSI.out] at hj
      exact ⟨rfl, by first | exact hj | exact HD.out _ _ _ hj⟩
theorem every_pure (g : Nat) (U : List (List Int)) (N : List Int) (v : Adr) (w : World) (hs : U.length ≤ 12) (hV : View w g U N v) (fv : Nat) (fn : Func) (cs : Array Value) (hf : Try.prog.funcs[fv]? = some fn) (hname : (fn.name == "runtime.NumGoroutine") = false) (hb : fn.body.isSome = true)
    (p : Nat → Nat → Bool) (step : ∀ a b : Nat, a < U.length → b < U.length → ∀ W, Below w.heap.size w W → Calls Try.prog fv (#[.int .i64 a, .int .i64 b] ++ cs) W fun e w'' => e = .returned (.bool (p a b)) ∧ Below W.heap.size W w'') :
    Calls Try.prog 87 #[.pointer (some ⟨g, 0, none⟩), .func (.func fv) #[] cs] w fun e w' => e = .returned (.bool (allN U.length fun a => allN U.length fun b => p a b)) ∧ Below w.heap.size w w' := by
  refine (every_calls g U N v w hs fv fn cs hf hname hb p (fun _ W => Below w.heap.size w W) (fun _ W h => hV.below h) (fun _ W n h => pw_below_drewN h n) (Below.refl _ _) (fun a b ha hb' W hW => ?_)).mono ?_
  · refine (step a b ha hb' W hW).mono ?_
    rintro e w2 ⟨rfl, h2⟩
    exact ⟨rfl, below_step hW h2⟩
  · rintro e w2 ⟨rfl, i, h2, _⟩
    exact ⟨rfl, h2⟩
def filI (n : Nat) (p : Nat → Bool) : List Int := ((List.range n).filter p).map fun (a : Nat) => (a : Int)
theorem filI_succ (n : Nat) (p : Nat → Bool) : filI (n + 1) p = if p n = true then filI n p ++ [(n : Int)] else filI n p := by
  unfold filI
  rw [List.range_succ, List.filter_append, List.map_append]
  cases h : p n <;> simp [h]
theorem filI_length (n : Nat) (p : Nat → Bool) : (filI n p).length ≤ n := by
  unfold filI
  rw [List.length_map]
  exact Nat.le_trans (List.length_filter_le _ _) (by simp)
set_option maxHeartbeats 1000000 in
set_option maxRecDepth 100000 in
theorem all_calls (g : Nat) (U : List (List Int)) (N : List Int) (v : Adr) (w : World) (hs : U.length ≤ 12) (hV : View w g U N v) (fv : Nat) (fn : Func) (cs : Array Value) (hf : Try.prog.funcs[fv]? = some fn) (hname : (fn.name == "runtime.NumGoroutine") = false) (hb : fn.body.isSome = true)
    (p : Nat → Bool) (step : ∀ a : Nat, a < U.length → ∀ W, Below w.heap.size w W → Calls Try.prog fv (#[.int .i64 a] ++ cs) W fun e w'' => e = .returned (.bool (p a)) ∧ Below W.heap.size W w'') :
    Calls Try.prog 91 #[.pointer (some ⟨g, 0, none⟩), .func (.func fv) #[] cs] w fun e w' => ∃ v0, e = .returned v0 ∧ Kd.R (Kd.int .i64) 3 w' w.heap.size (fun _ => True) v0 (filI U.length p) ∧ Below w.heap.size w w' := by
  have hu70 := Try.underlying70
  have HF := Aside0.mk hf
  have HNM := Aside0.mk hname
  have HBD := Aside0.mk hb
  have HV := Aside0.mk hV
  have HST := Aside0.mk step
  have HB := Aside0.mk (Below.refl w.heap.size w)
  have hf0 := hV.f0
  clear hf hname hb hV step
  go_enter Try.func91, Try.ntmps91
  go_wp2_with (first | ((with_reducible refine gate_dst (N := 7) rfl ?_); refine Kd.R_lit (Kd.int .i64) _ 3 ?hg (N := 7) ?hd (xs := ([] : List Int)) (inner := []) (ok := fun _ => True) (okp := fun _ => True) ?hr ?hp (fun _ hk => hk) trivial (Below.refl _ _) (Nat.le_refl _) (by simp) ?_; (case hd => rfl); (case hg => rfl); (case hr => first | (go_simp; done) | (go_simp; rfl)); (case hp => exact (Reps.none _ _)); intro v496 w4 ho5 hb hg_ hnew_; clear hg_ hnew_; have HO := Aside0.mk ho5; have HB2 := Aside0.mk (below_step HB.out hb); have hf0' := (HV.out.below hb).f0; clear HB hf0 ho5 hb))
  go_loopg [5, 13] (U.length + 1) (fun kq v5 v13 W => ∃ i : Nat, v13 = .int .i64 i ∧ Aside0 (i + kq = U.length + 1) ∧ Aside0 (i ≤ U.length) ∧ Aside0 (Kd.R (Kd.int .i64) 3 W w.heap.size (fun _ => True) v5 (filI i p)) ∧ Aside0 (Below w.heap.size w W))
  case atStart => exact ⟨0, rfl, ⟨by omega⟩, ⟨by omega⟩, ⟨by (with_reducible repeat (first | apply Kd.R_alloc | apply Kd.R_drewN | apply Kd.R_drew)); exact HO.out⟩, ⟨by repeat (first | exact HB2.out | apply below_alloc | apply pw_below_drewN | apply below_drew1)⟩⟩
  case round =>
    clear hf0'
    obtain ⟨i, rfl, HK, HK2, HO1, HB1⟩ := hrel
    cases gk with
    | zero => exact absurd HK.out (by have := HK2.out; omega)
    | succ kn =>
    by_cases hlt : i < U.length
    · have hlt' : decide (i < U.length) = true := decide_eq_true hlt
      have HLT := Aside0.mk hlt
      clear hlt
      cases hp : p i with
      | true =>
        have HP := Aside0.mk hp
        clear hp
        go_wp2_with (first | (refine goesV_ (some 18) rfl rfl HF.out HNM.out HBD.out #[.int .i64 i] rfl rfl zq340 ?_; refine (HST.out i HLT.out _ ?sJ).mono ?_; (case sJ => exact zq327); rintro e w1 ⟨he, hj⟩; rw [HP.out] at he; subst he; refine ⟨_, rfl, ?_⟩; have HB3 := Aside0.mk (below_step zq327 hj); have HO3 := Aside0.mk (Kd.R_below zq386 hj); clear hj) | ((with_reducible refine gate_builtin (b := .append) (xs := #[.tmp 19, .tmp 21]) rfl ?_); at_builtin; refine Kd.R_append (Kd.int .i64) (w0 := w) w.heap.size rfl (.tmp 19) (.tmp 21) 28 3 (.int .i64 0) 8 rfl Try.underlying28 infoInt rfl (by decide) (by omega) u5 (filI i p) (i : Int) [.int .i64 i] (fun _ => True) (fun _ => False) rfl rfl ?aP (fun _ hk => hk.elim) ?aF ?aO ?aB ?aS ?aL ?_; (case aP => exact rfl); (case aB => exact zq365); (case aF => exact (fun _ _ => trivial)); (case aO => exact (by (with_reducible repeat (first | apply Kd.R_alloc | apply Kd.R_drewN | apply Kd.R_drew)); exact HO3.out)); (case aS => exact (below_size zq365)); (case aL => have := filI_length i p; have := HLT.out; omega); intro v5n w21 ho hb hg hat; have HB4 := Aside0.mk hb; have HO4 := Aside0.mk ho; clear ho hb hg hat))
        go_roundg kn
        case measure => omega
        case rel => exact ⟨i + 1, by first | go_num | (rw [wrap_small (by omega) (by have := HLT.out; omega)]; go_num), ⟨by have := HK.out; omega⟩, ⟨by have := HLT.out; omega⟩, ⟨by rw [filI_succ, if_pos HP.out]; (with_reducible repeat (first | apply Kd.R_alloc | apply Kd.R_drewN | apply Kd.R_drew)); exact HO4.out⟩, ⟨by repeat (first | exact HB4.out | apply below_alloc | apply pw_below_drewN | apply below_drew1)⟩⟩
      | false =>
        have HP := Aside0.mk hp
        clear hp
        go_wp2_with (refine goesV_ (some 18) rfl rfl HF.out HNM.out HBD.out #[.int .i64 i] rfl rfl zq340 ?_; refine (HST.out i HLT.out _ ?sJ).mono ?_; (case sJ => exact zq327); rintro e w1 ⟨he, hj⟩; rw [HP.out] at he; subst he; refine ⟨_, rfl, ?_⟩; have HB3 := Aside0.mk (below_step zq327 hj); have HO3 := Aside0.mk (Kd.R_below zq386 hj); clear hj)
        go_roundg kn
        case measure => omega
        case rel => exact ⟨i + 1, by first | go_num | (rw [wrap_small (by omega) (by have := HLT.out; omega)]; go_num), ⟨by have := HK.out; omega⟩, ⟨by have := HLT.out; omega⟩, ⟨by rw [filI_succ, if_neg (by rw [HP.out]; simp)]; (with_reducible repeat (first | apply Kd.R_alloc | apply Kd.R_drewN | apply Kd.R_drew)); exact HO3.out⟩, ⟨zq365⟩⟩
    · have hlt' : decide (i < U.length) = false := decide_eq_false hlt
      obtain rfl : i = U.length := by have := HK2.out; omega
      clear hlt
      go_wp2_with fail
      go_ret
      exact ⟨_, rfl, by (with_reducible repeat (first | apply Kd.R_alloc | apply Kd.R_drewN | apply Kd.R_drew)); exact HO1.out, by repeat (first | exact HB1.out | apply below_alloc | apply pw_below_drewN | apply below_drew1)⟩
theorem natcast_beq (x y : Nat) : ((x : Int) == (y : Int)) = (x == y) := by rw [Bool.eq_iff_iff, beq_iff_eq, beq_iff_eq]; constructor <;> intro h <;> omega
theorem filI_all (n : Nat) (p : Nat → Bool) : ((filI n p).length == n) = allN n p := by
  rw [Bool.eq_iff_iff,beq_iff_eq,allN_iff]
  unfold filI
  rw [List.length_map]
  constructor
  · intro h i hi
    have h2:((List.range n).filter p).length=(List.range n).length:=by rw [h];simp
    have:=List.length_filter_eq_length_iff.1 h2 i (by simpa using hi)
    exact this
  · intro h
    rw [List.filter_eq_self.2 (fun i hi=>h i (by simpa using hi))]
    simp
def modT (U : List (List Int)) (a b c : Int) : Bool := orI U a (andI U b c) == andI U c (orI U a b)
def modB (U : List (List Int)) : Bool := allN U.length fun a => allN U.length fun c => !leI U a c || allN U.length fun b => modT U a b c
theorem mod_c2 (g : Nat) (U : List (List Int)) (N : List Int) (v : Adr) (w : World) (L : Logic U N) (hV : View w g U N v) (gG gA gC : Nat) (a b c : Int) (ia : In U a) (ib : In U b) (ic : In U c)
    (hG:w.heap[gG]? =some (.cells #[.pointer (some ⟨g,0,none⟩)] 64 (0,0))) (hA:w.heap[gA]? =some (.cells #[.int .i64 a] 3 (0,0))) (hC:w.heap[gC]? =some (.cells #[.int .i64 c] 3 (0,0))):
    Calls Try.prog 92 #[.int .i64 b,.pointer (some ⟨gG,0,none⟩),.pointer (some ⟨gA,0,none⟩),.pointer (some ⟨gC,0,none⟩)] w fun e w'=>e= .returned (.bool (modT U a b c))∧Below w.heap.size w w':=by
  have hu70:=Try.underlying70
  have HV:=Aside0.mk hV
  have HLg:=Aside0.mk L
  have Ia:=Aside0.mk ia
  have Ib:=Aside0.mk ib
  have Ic:=Aside0.mk ic
  have x0:w.cell? ⟨gG,0,none⟩=some (.pointer (some ⟨g,0,none⟩)):=(blk_cell hG 0).trans rfl
  have x1:w.cell? ⟨gA,0,none⟩=some (.int .i64 a):=(blk_cell hA 0).trans rfl
  have x2:w.cell? ⟨gC,0,none⟩=some (.int .i64 c):=(blk_cell hC 0).trans rfl
  clear hV L ia ib ic hG hA hC
  have b0_:=eq_true Ib.out.1;have c0_:=eq_true Ib.out.2
  have b1_:=eq_true Ic.out.1;have c1_:=eq_true Ic.out.2
  have hf1_:=HV.out.f1
  have r3_:=HV.out.m b Ib.out
  have s4_:=HV.out.m2 b c Ib.out Ic.out
  have b5_:=eq_true Ia.out.1;have c5_:=eq_true Ia.out.2
  have IN1_:=Aside0.mk (HLg.out.in_and Ib.out Ic.out)
  have b6_:=eq_true IN1_.out.1;have c6_:=eq_true IN1_.out.2
  have hf2_:=HV.out.f2
  have r8_:=HV.out.j a Ia.out
  have s9_:=HV.out.j2 a (andI U b c) Ia.out IN1_.out
  have s10_:=HV.out.j2 a b Ia.out Ib.out
  have IN2_:=Aside0.mk (HLg.out.in_or Ia.out Ib.out)
  have b11_:=eq_true IN2_.out.1;have c11_:=eq_true IN2_.out.2
  have r12_:=HV.out.m c Ic.out
  have s13_:=HV.out.m2 c (orI U a b) Ic.out IN2_.out
  unfold modT
  go_enter Try.func92,Try.ntmps92
  go_wp2_with fail
  go_quiet (fail)
  go_wp2
  go_ret
  exact⟨rfl,by repeat(first|exact Below.refl _ _|apply pw_below_drewN|apply below_drew1)⟩
def mod_c1.T1 : Bool × List (List Nat × List Nat) := (true, [([], []), ([0], [0]), ([1], [1]), ([2], [2]), ([], []), ([3, 4], [3, 4]), ([5], [5]), ([], []), ([6, 7], [6, 7]), ([8], [8]), ([9], [9]), ([10], [10]), ([11], [11]), ([11], [11]), ([12, 13, 11, 11], [11, 12, 13]), ([14, 11], [11, 14]), ([11], [11]), ([16, 11], [11, 16]), ([17, 11], [11, 17]), ([18, 11], [11, 18]), ([19, 11], [11, 19]), ([15, 20, 11], [11, 15, 20]), ([11, 21], [11, 21]), ([22, 14, 0, 1, 2, 3, 4, 5, 6, 7, 8, 9, 10, 11, 12, 13, 14, 15, 16, 17, 18, 19, 20, 21, 22], [22])])
def mod_c1.B1 : List Nat := [0, 1, 3, 7, 0, 31, 63, 0, 255, 511, 1023, 2047, 4095, 4095, 16383, 32767, 4095, 69631, 200703, 462847, 987135, 2097151, 4194303, 8388607]
theorem mod_c1.tab1 : rtab .any (opsOf Try.f90 1) = mod_c1.T1 := by kernel_rfl
theorem mod_c1.bits1 : waitsOk mod_c1.T1.2 mod_c1.B1 = true := by kernel_rfl
set_option maxHeartbeats 4000000 in
set_option maxRecDepth 100000 in
theorem mod_c1 (g : Nat) (U : List (List Int)) (N : List Int) (v : Adr) (w : World) (L : Logic U N) (hV : View w g U N v) (gG : Nat) (a c : Int) (ia : In U a) (ic : In U c) (hG : w.heap[gG]? = some (.cells #[.pointer (some ⟨g, 0, none⟩)] 64 (0, 0))) :
    Calls Try.prog 90 #[.int .i64 a,.int .i64 c,.pointer (some ⟨gG,0,none⟩)] w fun e w'=>e= .returned (.bool (!leI U a c||allN U.length fun b=>modT U a b c))∧Below w.heap.size w w':=by
  have hu70:=Try.underlying70
  have HV:=Aside0.mk hV
  have HLg:=Aside0.mk L
  have Ia:=Aside0.mk ia
  have Ic:=Aside0.mk ic
  have HG:=Aside0.mk hG
  have b1:=eq_true ia.1
  have b2:=eq_true ia.2
  have b3:=eq_true ic.1
  have b4:=eq_true ic.2
  have v1:=L.le_val ia ic
  clear hV L ia ic hG
  cases hle:leI U a c with
  | false =>
    rw [hle] at v1
    clear hle
    go_enter Try.func90,Try.ntmps90
    go_wp2_with (first|((with_reducible refine gate_dst (N:=3) rfl ?_);refine box_event ?hg (N:=3) ?hd (cs:= #[.int .i64 a]) (t:=3) ?hr ?_;(case hd=>rfl);(case hg=>rfl);(case hr=>first|(go_simp;done)|(go_simp;rfl));intro gA hg_ w1 hbox hb;have HXA:=Aside0.mk hbox;have HB1:=Aside0.mk hb;have HG1:=Aside0.mk (blk_below HG.out hb);have HV1:=Aside0.mk (HV.out.below hb);clear hbox hb hg_)|((with_reducible refine gate_dst (N:=4) rfl ?_);refine box_event ?hg (N:=4) ?hd (cs:= #[.int .i64 c]) (t:=3) ?hr ?_;(case hd=>rfl);(case hg=>rfl);(case hr=>first|(go_simp;done)|(go_simp;rfl));intro gC hg_ w2 hbox hb;have HXC:=Aside0.mk hbox;have HB2:=Aside0.mk (below_step HB1.out hb);have HXA2:=Aside0.mk (blk_below HXA.out hb);have HG2:=Aside0.mk (blk_below HG1.out hb);have HV2:=Aside0.mk (HV1.out.below hb);clear HB1 HXA HG1 HV1;clear hbox hb hg_))
    have hcell_: ∀ {W:World},View W g U N v→W.cell? ((v.rU a.toNat).add c.toNat)=some (.int .i64 0):=fun h=>by have h2:=h.u2 a c Ia.out Ic.out;rw [v1] at h2;exact h2
    have y0:w2.cell? ⟨gG,0,none⟩=some (.pointer (some ⟨g,0,none⟩)):=(blk_cell HG2.out 0).trans rfl
    have y1:w2.cell? ⟨gA,0,none⟩=some (.int .i64 a):=(blk_cell HXA2.out 0).trans rfl
    have y2:w2.cell? ⟨gC,0,none⟩=some (.int .i64 c):=(blk_cell HXC.out 0).trans rfl
    have y3:=HV2.out.f0
    have y4:=HV2.out.u a Ia.out
    have y5:=hcell_ HV2.out
    clear v1 hcell_
    go_quiet (fail)
    go_wp2
    go_ret
    exact⟨rfl,zq303⟩
  | true =>
    rw [hle] at v1
    clear hle
    rw [← filI_all]
    go_enter Try.func90,Try.ntmps90
    go_wp2_with (first|((with_reducible refine gate_dst (N:=3) rfl ?_);refine box_event ?hg (N:=3) ?hd (cs:= #[.int .i64 a]) (t:=3) ?hr ?_;(case hd=>rfl);(case hg=>rfl);(case hr=>first|(go_simp;done)|(go_simp;rfl));intro gA hg_ w1 hbox hb;have HXA:=Aside0.mk hbox;have HB1:=Aside0.mk hb;have HG1:=Aside0.mk (blk_below HG.out hb);have HV1:=Aside0.mk (HV.out.below hb);clear hbox hb hg_)|((with_reducible refine gate_dst (N:=4) rfl ?_);refine box_event ?hg (N:=4) ?hd (cs:= #[.int .i64 c]) (t:=3) ?hr ?_;(case hd=>rfl);(case hg=>rfl);(case hr=>first|(go_simp;done)|(go_simp;rfl));intro gC hg_ w2 hbox hb;have HXC:=Aside0.mk hbox;have HB2:=Aside0.mk (below_step HB1.out hb);have HXA2:=Aside0.mk (blk_below HXA.out hb);have HG2:=Aside0.mk (blk_below HG1.out hb);have HV2:=Aside0.mk (HV1.out.below hb);clear HB1 HXA HG1 HV1;clear hbox hb hg_))
    have hcell_: ∀ {W:World},View W g U N v→W.cell? ((v.rU a.toNat).add c.toNat)=some (.int .i64 1):=fun h=>by have h2:=h.u2 a c Ia.out Ic.out;rw [v1] at h2;exact h2
    refine start_ (n:=24) (S:=(fun w'=>w'.cell? ⟨gG,0,none⟩=some (.pointer (some ⟨g,0,none⟩))∧w'.cell? ⟨gA,0,none⟩=some (.int .i64 a)∧w'.cell? ⟨gC,0,none⟩=some (.int .i64 c)∧w'.cell? ⟨g,0,none⟩=some (.slice (some v.aU) U.length v.cU)∧w'.cell? (v.aU.add a.toNat)=some (.slice (some (v.rU a.toNat)) U.length (v.qU a.toNat))∧w'.cell? ((v.rU a.toNat).add c.toNat)=some (.int .i64 1))) (ds:= []) (zqb 24 0) (by kernel_rfl) rfl rfl ⟨(blk_cell (blk_drew HG2.out) 0).trans rfl,(blk_cell (blk_drew HXA2.out) 0).trans rfl,(blk_cell (blk_drew HXC.out) 0).trans rfl,(HV2.out.below (below_drew1 (Below.refl _ _))).f0,(HV2.out.below (below_drew1 (Below.refl _ _))).u a Ia.out,hcell_ (HV2.out.below (below_drew1 (Below.refl _ _)))⟩ (fun hHeld=>?_)
    refine with_tabW mod_c1.tab1 mod_c1.bits1 (fun HT_ HW_=>?_)
    generalize hwd:w2.drew=wd at hHeld ⊢
    have HB3:=Aside0.mk (show Below w.heap.size w wd from hwd ▸ below_drew1 HB2.out)
    replace HG2:=Aside0.mk (hwd ▸ blk_drew HG2.out)
    replace HXA2:=Aside0.mk (hwd ▸ blk_drew HXA2.out)
    replace HXC:=Aside0.mk (hwd ▸ blk_drew HXC.out)
    replace HV2:=Aside0.mk (show View wd g U N v from hwd ▸ HV2.out.below (below_drew1 (Below.refl _ _)))
    clear hwd HB2
    refine take_ (i:=0) (N:=some 6) (v:=?_) (a':=?_) (zqb 24 1) rfl rfl (take_ofW HT_.out HW_.out (by kernel_rfl)) (fun _ _ _ h=>h) (Or.inl ⟨by rfl,?_⟩) hHeld ?_ ?_
    rotate_left
    · rintro w' ⟨s0,s1,s2,s3,s4,s5⟩;go_simp;with_reducible rfl
    rotate_left
    · simp only [Act.put,List.setIfInBounds_toArray,List.set_cons_zero,List.set_cons_succ,i64_w,i32_w];rfl
    refine pure_ (i:=1) (N:=some 7) (v:=?_) (a':=?_) (zqb 24 3) rfl rfl (any_of HT_.out (by kernel_rfl)) (fun _ _ _ h=>h) (Or.inl ⟨by rfl,?_⟩) ?_ ?_
    rotate_left
    · intro w';go_simp;with_reducible rfl
    rotate_left
    · simp only [Act.put,List.setIfInBounds_toArray,List.set_cons_zero,List.set_cons_succ,i64_w,i32_w];rfl
    refine pure_ (i:=2) (N:=some 8) (v:=?_) (a':=?_) (zqb 24 7) rfl rfl (any_of HT_.out (by kernel_rfl)) (fun _ _ _ h=>h) (Or.inl ⟨by rfl,?_⟩) ?_ ?_
    rotate_left
    · intro w';go_simp;with_reducible rfl
    rotate_left
    · simp only [Act.put,List.setIfInBounds_toArray,List.set_cons_zero,List.set_cons_succ,i64_w,i32_w];rfl
    refine take_ (i:=3) (N:=some 9) (v:=?_) (a':=?_) (zqb 24 15) rfl rfl (take_ofW HT_.out HW_.out (by kernel_rfl)) (fun _ _ _ h=>h) (Or.inl ⟨by rfl,?_⟩) hHeld ?_ ?_
    rotate_left
    · rintro w' ⟨s0,s1,s2,s3,s4,s5⟩;go_simp;with_reducible rfl
    rotate_left
    · simp only [Act.put,List.setIfInBounds_toArray,List.set_cons_zero,List.set_cons_succ,i64_w,i32_w];rfl
    refine take_ (i:=4) (N:=some 10) (v:=?_) (a':=?_) (zqb 24 31) rfl rfl (take_ofW HT_.out HW_.out (by kernel_rfl)) (fun _ _ _ h=>h) (Or.inl ⟨by rfl,?_⟩) hHeld ?_ ?_
    rotate_left
    · rintro w' ⟨s0,s1,s2,s3,s4,s5⟩;go_simp;with_reducible rfl
    rotate_left
    · simp only [Act.put,List.setIfInBounds_toArray,List.set_cons_zero,List.set_cons_succ,i64_w,i32_w];rfl
    refine pure_ (i:=5) (N:=some 11) (v:=?_) (a':=?_) (zqb 24 63) rfl rfl (any_of HT_.out (by kernel_rfl)) (fun _ _ _ h=>h) (Or.inl ⟨by rfl,?_⟩) ?_ ?_
    rotate_left
    · intro w';go_simp;with_reducible rfl
    rotate_left
    · simp only [Act.put,List.setIfInBounds_toArray,List.set_cons_zero,List.set_cons_succ,i64_w,i32_w];rfl
    refine take_ (i:=6) (N:=some 12) (v:=?_) (a':=?_) (zqb 24 127) rfl rfl (take_ofW HT_.out HW_.out (by kernel_rfl)) (fun _ _ _ h=>h) (Or.inl ⟨by rfl,?_⟩) hHeld ?_ ?_
    rotate_left
    · rintro w' ⟨s0,s1,s2,s3,s4,s5⟩;go_simp;with_reducible rfl
    rotate_left
    · simp only [Act.put,List.setIfInBounds_toArray,List.set_cons_zero,List.set_cons_succ,i64_w,i32_w];rfl
    refine take_ (i:=7) (N:=some 13) (v:=?_) (a':=?_) (zqb 24 255) rfl rfl (take_ofW HT_.out HW_.out (by kernel_rfl)) (fun _ _ _ h=>h) (Or.inl ⟨by rfl,?_⟩) hHeld ?_ ?_
    rotate_left
    · rintro w' ⟨s0,s1,s2,s3,s4,s5⟩;go_simp;with_reducible rfl
    rotate_left
    · simp only [Act.put,List.setIfInBounds_toArray,List.set_cons_zero,List.set_cons_succ,i64_w,i32_w];rfl
    refine pure_ (i:=8) (N:=some 14) (v:=?_) (a':=?_) (zqb 24 511) rfl rfl (any_of HT_.out (by kernel_rfl)) (fun _ _ _ h=>h) (Or.inl ⟨by rfl,?_⟩) ?_ ?_
    rotate_left
    · intro w';go_simp;with_reducible rfl
    rotate_left
    · simp only [Act.put,List.setIfInBounds_toArray,List.set_cons_zero,List.set_cons_succ,i64_w,i32_w];rfl
    refine take_ (i:=9) (N:=some 15) (v:=?_) (a':=?_) (zqb 24 1023) rfl rfl (take_ofW HT_.out HW_.out (by kernel_rfl)) (fun _ _ _ h=>h) (Or.inl ⟨by rfl,?_⟩) hHeld ?_ ?_
    rotate_left
    · rintro w' ⟨s0,s1,s2,s3,s4,s5⟩;go_simp;with_reducible rfl
    rotate_left
    · simp only [Act.put,List.setIfInBounds_toArray,List.set_cons_zero,List.set_cons_succ,i64_w,i32_w];rfl
    refine pure_ (i:=10) (N:=some 16) (v:=?_) (a':=?_) (zqb 24 2047) rfl rfl (any_of HT_.out (by kernel_rfl)) (fun _ _ _ h=>h) (Or.inl ⟨by rfl,?_⟩) ?_ ?_
    rotate_left
    · intro w';go_simp;with_reducible rfl
    rotate_left
    · simp only [Act.put,List.setIfInBounds_toArray,List.set_cons_zero,List.set_cons_succ,i64_w,i32_w];rfl
    refine pure_ (i:=11) (N:=some 17) (v:=?_) (a':=?_) (zqb 24 4095) rfl rfl (any_of HT_.out (by kernel_rfl)) (fun _ _ _ h=>h) (Or.inl ⟨by rfl,?_⟩) ?_ ?_
    rotate_left
    · intro w';go_simp;with_reducible rfl
    rotate_left
    · simp only [Act.put,List.setIfInBounds_toArray,List.set_cons_zero,List.set_cons_succ,i64_w,i32_w];rfl
    refine take_ (i:=12) (N:=some 18) (v:=?_) (a':=?_) (zqb 24 8191) rfl rfl (take_ofW HT_.out HW_.out (by kernel_rfl)) (fun _ _ _ h=>h) (Or.inl ⟨by rfl,?_⟩) hHeld ?_ ?_
    rotate_left
    · rintro w' ⟨s0,s1,s2,s3,s4,s5⟩;go_simp;with_reducible rfl
    rotate_left
    · simp only [Act.put,List.setIfInBounds_toArray,List.set_cons_zero,List.set_cons_succ,i64_w,i32_w];rfl
    refine pure_ (i:=13) (N:=some 19) (v:=?_) (a':=?_) (zqb 24 16383) rfl rfl (any_of HT_.out (by kernel_rfl)) (fun _ _ _ h=>h) (Or.inl ⟨by rfl,?_⟩) ?_ ?_
    rotate_left
    · intro w';go_simp;with_reducible rfl
    rotate_left
    · simp only [Act.put,List.setIfInBounds_toArray,List.set_cons_zero,List.set_cons_succ,i64_w,i32_w];rfl
    refine take_ (i:=16) (N:=some 22) (v:=?_) (a':=?_) (zqb 24 81919) rfl rfl (take_ofW HT_.out HW_.out (by kernel_rfl)) (fun _ _ _ h=>h) (Or.inl ⟨by rfl,?_⟩) hHeld ?_ ?_
    rotate_left
    · rintro w' ⟨s0,s1,s2,s3,s4,s5⟩;go_simp;with_reducible rfl
    rotate_left
    · simp only [Act.put,List.setIfInBounds_toArray,List.set_cons_zero,List.set_cons_succ,i64_w,i32_w];rfl
    refine pure_ (i:=17) (N:=some 23) (v:=?_) (a':=?_) (zqb 24 212991) rfl rfl (any_of HT_.out (by kernel_rfl)) (fun _ _ _ h=>h) (Or.inl ⟨by rfl,?_⟩) ?_ ?_
    rotate_left
    · intro w';go_simp;with_reducible rfl
    rotate_left
    · simp only [Act.put,List.setIfInBounds_toArray,List.set_cons_zero,List.set_cons_succ,i64_w,i32_w];rfl
    refine pure_ (i:=18) (N:=some 24) (v:=?_) (a':=?_) (zqb 24 475135) rfl rfl (any_of HT_.out (by kernel_rfl)) (fun _ _ _ h=>h) (Or.inl ⟨by rfl,?_⟩) ?_ ?_
    rotate_left
    · intro w';go_simp;with_reducible rfl
    rotate_left
    · simp only [Act.put,List.setIfInBounds_toArray,List.set_cons_zero,List.set_cons_succ,i64_w,i32_w];rfl
    refine take_ (i:=19) (N:=some 25) (v:=?_) (a':=?_) (zqb 24 999423) rfl rfl (take_ofW HT_.out HW_.out (by kernel_rfl)) (fun _ _ _ h=>h) (Or.inl ⟨by rfl,?_⟩) hHeld ?_ ?_
    rotate_left
    · rintro w' ⟨s0,s1,s2,s3,s4,s5⟩;go_simp;with_reducible rfl
    rotate_left
    · simp only [Act.put,List.setIfInBounds_toArray,List.set_cons_zero,List.set_cons_succ,i64_w,i32_w];rfl
    refine pure_ (i:=20) (N:=some 26) (v:=?_) (a':=?_) (zqb 24 2047999) rfl rfl (any_of HT_.out (by kernel_rfl)) (fun _ _ _ h=>h) (Or.inl ⟨by rfl,?_⟩) ?_ ?_
    rotate_left
    · intro w';go_simp;with_reducible rfl
    rotate_left
    · simp only [Act.put,List.setIfInBounds_toArray,List.set_cons_zero,List.set_cons_succ,i64_w,i32_w];rfl
    refine one_ (i:=14) (N:=some 20) (zqb 24 2064383) rfl rfl (one_of HT_.out (by kernel_rfl)) (by decide) (fun K hK=>?_)
    refine goes_ Try.func91 (by kernel_rfl) rfl #[.pointer (some ⟨g,0,none⟩),.func (.func 92) #[] #[.pointer (some ⟨gG,0,none⟩),.pointer (some ⟨gA,0,none⟩),.pointer (some ⟨gC,0,none⟩)]] (by rfl) rfl rfl zq324 ?_
    refine(all_calls g U N v _ HLg.out.small HV2.out 92 _ _ Try.func92 (by kernel_rfl) rfl (fun b:Nat=>modT U a b c) (fun b hb W hW=>?_)).mono ?_
    · exact mod_c2 g U N v W HLg.out (HV2.out.below hW) gG gA gC a b c Ia.out ⟨by omega,by omega⟩ Ic.out (blk_below HG2.out hW) (blk_below HXA2.out hW) (blk_below HXC.out hW)
    rintro e w4 ⟨vo,rfl,ho,hb⟩
    obtain⟨Ao,co,rfl⟩:=Kd.R_slice ho
    refine⟨_,rfl,?_⟩
    refine hK.out _ _ ⟨(blk_cell (blk_below HG2.out hb) 0).trans rfl,(blk_cell (blk_below HXA2.out hb) 0).trans rfl,(blk_cell (blk_below HXC.out hb) 0).trans rfl,(HV2.out.below hb).f0,(HV2.out.below hb).u a Ia.out,hcell_ (HV2.out.below hb)⟩ (fun hHeld4=>?_)
    have HB4:=Aside0.mk (below_step HB3.out hb)
    clear hK K ho hb
    (try simp only [Act.put,List.setIfInBounds_toArray,List.set_cons_zero,List.set_cons_succ])
    refine pure_ (i:=15) (N:=some 21) (v:=?_) (a':=?_) (zqb 24 2097151) rfl rfl (any_of HT_.out (by kernel_rfl)) (fun _ _ _ h=>h) (Or.inl ⟨by rfl,?_⟩) ?_ ?_
    rotate_left
    · intro w';go_simp;with_reducible rfl
    rotate_left
    · simp only [Act.put,List.setIfInBounds_toArray,List.set_cons_zero,List.set_cons_succ,i64_w,i32_w];rfl
    refine pure_ (i:=21) (N:=some 27) (v:=?_) (a':=?_) (zqb 24 4194303) rfl rfl (any_of HT_.out (by kernel_rfl)) (fun _ _ _ h=>h) (Or.inl ⟨by rfl,?_⟩) ?_ ?_
    rotate_left
    · intro w';go_simp;with_reducible rfl
    rotate_left
    · simp only [Act.put,List.setIfInBounds_toArray,List.set_cons_zero,List.set_cons_succ,i64_w,i32_w];rfl
    refine pure_ (i:=22) (N:=some 28) (v:=?_) (a':=?_) (zqb 24 8388607) rfl rfl (any_of HT_.out (by kernel_rfl)) (fun _ _ _ h=>h) (Or.inl ⟨by rfl,?_⟩) ?_ ?_
    rotate_left
    · intro w';go_simp;with_reducible rfl
    rotate_left
    · simp only [Act.put,List.setIfInBounds_toArray,List.set_cons_zero,List.set_cons_succ,i64_w,i32_w];rfl
    refine pure_ (i:=23) (N:=some 5) (v:=?_) (a':=?_) (zqb 24 16777215) rfl rfl (any_of HT_.out (by kernel_rfl)) (fun _ _ _ h=>h) (Or.inl ⟨by rfl,?_⟩) ?_ ?_
    rotate_left
    · intro w';go_simp;with_reducible rfl
    rotate_left
    · simp only [Act.put,List.setIfInBounds_toArray,List.set_cons_zero,List.set_cons_succ,i64_w,i32_w];rfl
    refine done_ (done_of HT_.out (by kernel_rfl)) ?_
    go_wp2
    go_ret
    refine⟨?_,zq428⟩
    show Ending.returned (Value.bool (((filI U.length fun b=>modT U a (b:Int) c).length:Int)==(U.length:Int)))=_
    rw [natcast_beq]
    rfl
def impl_ModularOk.f (l0_0 : List (List Int)) (l0_1 : List Int) : Option (Bool) := some (if logicB l0_0 l0_1 = true then modB l0_0 else false)
set_option maxHeartbeats 4000000 in
set_option maxRecDepth 100000 in
theorem impl_ModularOk.calls (A0_0 : Option Addr) (c0_0 : Nat) (l0_0 : List (List Int)) (A0_1 : Option Addr) (c0_1 : Nat) (l0_1 : List Int) (r : Bool) (w : World) (hr0_0 : Kd.C (Kd.slice 3 (Kd.int .i64)) w A0_0 l0_0.length l0_0) (hc0_0 : l0_0.length ≤ c0_0) (hr0_1 : Kd.C (Kd.int .i64) w A0_1 l0_1.length l0_1) (hc0_1 : l0_1.length ≤ c0_1) (h : impl_ModularOk.f l0_0 l0_1 = some r) :
    Calls Try.prog 38 #[.agg #[.slice A0_0 l0_0.length c0_0,.slice A0_1 l0_1.length c0_1]] w fun e w'=>e= .returned (.bool r)∧Below w.heap.size w w':=by
  obtain⟨k,hF⟩:=told_facts l0_0
  have hu30:=Try.underlying30
  have hu70:=Try.underlying70
  have HF:=Aside0.mk hF
  have HR0:=Aside0.mk hr0_0
  have HC0:=Aside0.mk hc0_0
  have HR1:=Aside0.mk hr0_1
  have HC1:=Aside0.mk hc0_1
  simp only [impl_ModularOk.f,Option.some.injEq] at h
  clear hr0_0 hc0_0 hr0_1 hc0_1 hF
  cases hL:logicB l0_0 l0_1 with
  | false =>
    rw [hL] at h
    have hr_:false=r:=by simpa using h
    subst hr_
    have HLB:=Aside0.mk hL
    clear h hL
    go_enter Try.func38,Try.ntmps38
    go_wp2_with (first|((with_reducible refine gate_dst (N:=1) rfl ?_);refine box_event ?hg (N:=1) ?hd (cs:= #[.slice A0_0 l0_0.length c0_0,.slice A0_1 l0_1.length c0_1]) (t:=30) ?hr ?_;(case hd=>rfl);(case hg=>rfl);(case hr=>first|(go_simp;done)|(go_simp;rfl));intro gb hg_ w1 hbox hb;have HB:=Aside0.mk hb;have hx0:w1.cell? ⟨gb,0,none⟩=some (.slice A0_0 l0_0.length c0_0):=(blk_cell hbox 0).trans rfl;have hx1:w1.cell? ⟨gb,1,none⟩=some (.slice A0_1 l0_1.length c0_1):=(blk_cell hbox 1).trans rfl;have HX:=Aside0.mk hbox;clear hbox hb hg_)|(go_at_call 77;(with_reducible refine(told_n k _ _ l0_0 _ _ l0_1 _ ?s1 ?s2 ?s3 ?s4 HF.out HLB.out).mono ?_);(case s1=>exact Kd.C_below HR0.out HB.out);(case s2=>exact HC0.out);(case s3=>exact Kd.C_below HR1.out HB.out);(case s4=>exact HC1.out);rintro e w2 ⟨rfl,hb⟩;have HB2:=Aside0.mk (below_step HB.out hb);clear hb hx0 hx1 HX HB))
    go_ret
    exact⟨rfl,zq116⟩
  | true =>
    rw [hL] at h
    have hr_:modB l0_0=r:=by simpa using h
    subst hr_
    have HLB:=Aside0.mk hL
    have HLg:=Aside0.mk (logicB_iff.1 hL)
    clear h hL
    go_enter Try.func38,Try.ntmps38
    go_wp2_with (first|((with_reducible refine gate_dst (N:=1) rfl ?_);refine box_event ?hg (N:=1) ?hd (cs:= #[.slice A0_0 l0_0.length c0_0,.slice A0_1 l0_1.length c0_1]) (t:=30) ?hr ?_;(case hd=>rfl);(case hg=>rfl);(case hr=>first|(go_simp;done)|(go_simp;rfl));intro gb hg_ w1 hbox hb;have HB:=Aside0.mk hb;have hx0:w1.cell? ⟨gb,0,none⟩=some (.slice A0_0 l0_0.length c0_0):=(blk_cell hbox 0).trans rfl;have hx1:w1.cell? ⟨gb,1,none⟩=some (.slice A0_1 l0_1.length c0_1):=(blk_cell hbox 1).trans rfl;have HX:=Aside0.mk hbox;clear hbox hb hg_)|(go_at_call 77;(with_reducible refine(told_y k _ _ l0_0 _ _ l0_1 _ ?s1 ?s2 ?s3 ?s4 HF.out HLB.out).mono ?_);(case s1=>exact Kd.C_below HR0.out HB.out);(case s2=>exact HC0.out);(case s3=>exact Kd.C_below HR1.out HB.out);(case s4=>exact HC1.out);rintro e w2 ⟨g,v,rfl,hv,hge,hb⟩;have HB2:=Aside0.mk (below_step HB.out hb);have HV:=Aside0.mk hv;clear hv hge hb hx0 hx1 HX HB)|(go_at_call 87;(with_reducible refine(every_pure g l0_0 l0_1 v _ HLg.out.small ?sV 90 _ #[.pointer (some ⟨w2.heap.size,0,none⟩)] Try.func90 (by kernel_rfl) rfl (fun a c=>!leI l0_0 a c||allN l0_0.length fun b=>modT l0_0 a b c) ?sT).mono ?_);(case sV=>exact HV.out.below (below_alloc (Below.refl _ _) _));(case sT=>exact fun a c ha hc W hW=>mod_c1 g l0_0 l0_1 v W HLg.out ((HV.out.below (below_alloc (Below.refl _ _) _)).below hW) w2.heap.size a c ⟨by omega,by omega⟩ ⟨by omega,by omega⟩ (blk_below (MapKept.heap_alloc w2 _).1 hW));rintro e w3 ⟨rfl,hb⟩;have HB3:=Aside0.mk (below_step (below_step HB2.out (below_alloc (Below.refl _ _) _)) hb);clear hb))
    go_ret
    exact⟨rfl,zq284⟩
theorem enc_b {n s b : Nat} (hb : b < n) : (s * n + b) % n = b := by rw [Nat.add_comm, Nat.add_mul_mod_self_right, Nat.mod_eq_of_lt hb]
theorem enc_s {n s b : Nat} (hb : b < n) : (s * n + b) / n = s := by rw [Nat.add_comm, Nat.add_mul_div_right _ _ (by omega), Nat.div_eq_of_lt hb, Nat.zero_add]
theorem enc_lt {n s b m : Nat} (hs : s < m) (hb : b < n) : s * n + b < m * n := by
  have : (s + 1) * n ≤ m * n := Nat.mul_le_mul_right n hs
  rw [Nat.succ_mul] at this
  omega
def pentP (U : List (List Int)) (a c b : Nat) : Bool := !(a == c) && (leI U a c && (andI U b a == andI U b c && orI U b a == orI U b c))
def pentK (U : List (List Int)) (k : Nat) : Bool := pentP U (k / U.length / U.length) (k / U.length % U.length) (k % U.length)
theorem pentK_at (U : List (List Int)) {a c b : Nat} (_ha : a < U.length) (hc : c < U.length) (hb : b < U.length) : pentK U ((a * U.length + c) * U.length + b) = pentP U a c b := by
  unfold pentK
  rw [enc_b hb, enc_s hb, enc_b hc, enc_s hc]
def pentO (U : List (List Int)) : Option Nat := findN (U.length * U.length * U.length) (pentK U)
def pentV (U : List (List Int)) : Int × Int × Int × Bool := match pentO U with | some k => (((k / U.length / U.length : Nat) : Int), ((k / U.length % U.length : Nat) : Int), ((k % U.length : Nat) : Int), true) | none => (-1, -1, -1, false)
def impl_PentagonOf.f (l0_0 : List (List Int)) (l0_1 : List Int) : Option (Int × Int × Int × Bool) := some (if logicB l0_0 l0_1 = true then pentV l0_0 else (-1, -1, -1, false))
set_option maxHeartbeats 4000000 in
set_option maxRecDepth 100000 in
theorem impl_PentagonOf.calls (A0_0 : Option Addr) (c0_0 : Nat) (l0_0 : List (List Int)) (A0_1 : Option Addr) (c0_1 : Nat) (l0_1 : List Int) (r1 : Int) (r2 : Int) (r3 : Int) (r4 : Bool) (w : World) (hr0_0 : Kd.C (Kd.slice 3 (Kd.int .i64)) w A0_0 l0_0.length l0_0) (hc0_0 : l0_0.length ≤ c0_0) (hr0_1 : Kd.C (Kd.int .i64) w A0_1 l0_1.length l0_1) (hc0_1 : l0_1.length ≤ c0_1) (h : impl_PentagonOf.f l0_0 l0_1 = some (r1, r2, r3, r4)) :
    Calls Try.prog 40 #[.agg #[.slice A0_0 l0_0.length c0_0,.slice A0_1 l0_1.length c0_1]] w fun e w'=>e= .returned (.tuple #[.int .i64 r1,.int .i64 r2,.int .i64 r3,.bool r4])∧Below w.heap.size w w':=by
  obtain⟨k,hF⟩:=told_facts l0_0
  have hu30:=Try.underlying30
  have hu70:=Try.underlying70
  have HF:=Aside0.mk hF
  have HR0:=Aside0.mk hr0_0
  have HC0:=Aside0.mk hc0_0
  have HR1:=Aside0.mk hr0_1
  have HC1:=Aside0.mk hc0_1
  simp only [impl_PentagonOf.f,Option.some.injEq] at h
  clear hr0_0 hc0_0 hr0_1 hc0_1 hF
  cases hL:logicB l0_0 l0_1 with
  | false =>
    rw [hL] at h
    simp only [Bool.false_eq_true,if_false,Prod.mk.injEq] at h
    obtain⟨rfl,rfl,rfl,rfl⟩:=h
    have HLB:=Aside0.mk hL
    clear hL
    go_enter Try.func40,Try.ntmps40
    go_wp2_with (first|((with_reducible refine gate_dst (N:=1) rfl ?_);refine box_event ?hg (N:=1) ?hd (cs:= #[.slice A0_0 l0_0.length c0_0,.slice A0_1 l0_1.length c0_1]) (t:=30) ?hr ?_;(case hd=>rfl);(case hg=>rfl);(case hr=>first|(go_simp;done)|(go_simp;rfl));intro gb hg_ w1 hbox hb;have HB:=Aside0.mk hb;have hx0:w1.cell? ⟨gb,0,none⟩=some (.slice A0_0 l0_0.length c0_0):=(blk_cell hbox 0).trans rfl;have hx1:w1.cell? ⟨gb,1,none⟩=some (.slice A0_1 l0_1.length c0_1):=(blk_cell hbox 1).trans rfl;have HX:=Aside0.mk hbox;clear hbox hb hg_)|(go_at_call 77;(with_reducible refine(told_n k _ _ l0_0 _ _ l0_1 _ ?s1 ?s2 ?s3 ?s4 HF.out HLB.out).mono ?_);(case s1=>exact Kd.C_below HR0.out HB.out);(case s2=>exact HC0.out);(case s3=>exact Kd.C_below HR1.out HB.out);(case s4=>exact HC1.out);rintro e w2 ⟨rfl,hb⟩;have HB2:=Aside0.mk (below_step HB.out hb);clear hb hx0 hx1 HX HB))
    (try simp only [Exit.inBlock,Exit.then])
    refine bodyPost_ret (results_list (rs:= [.tmp 2,.tmp 3,.tmp 4,.tmp 5]) rfl (by simp) (.tmp (.tmp (.tmp (.tmp .nil))))) rfl ?_
    exact⟨rfl,HB2.out⟩
  | true =>
    have HLB0:=Aside0.mk hL
    have HLg:=Aside0.mk (logicB_iff.1 hL)
    have HLB:=HLB0
    rw [hL] at h
    simp only [if_true] at h
    have HH:=Aside0.mk h
    clear h hL
    go_enter Try.func40,Try.ntmps40
    go_wp2_with (first|((with_reducible refine gate_dst (N:=1) rfl ?_);refine box_event ?hg (N:=1) ?hd (cs:= #[.slice A0_0 l0_0.length c0_0,.slice A0_1 l0_1.length c0_1]) (t:=30) ?hr ?_;(case hd=>rfl);(case hg=>rfl);(case hr=>first|(go_simp;done)|(go_simp;rfl));intro gb hg_ w1 hbox hb;have HB:=Aside0.mk hb;have hx0:w1.cell? ⟨gb,0,none⟩=some (.slice A0_0 l0_0.length c0_0):=(blk_cell hbox 0).trans rfl;have hx1:w1.cell? ⟨gb,1,none⟩=some (.slice A0_1 l0_1.length c0_1):=(blk_cell hbox 1).trans rfl;have HX:=Aside0.mk hbox;clear hbox hb hg_)|(go_at_call 77;(with_reducible refine(told_y k _ _ l0_0 _ _ l0_1 _ ?s1 ?s2 ?s3 ?s4 HF.out HLB.out).mono ?_);(case s1=>exact Kd.C_below HR0.out HB.out);(case s2=>exact HC0.out);(case s3=>exact Kd.C_below HR1.out HB.out);(case s4=>exact HC1.out);rintro e w2 ⟨g,v,rfl,hv,hge,hb⟩;have HB2:=Aside0.mk (below_step HB.out hb);have HV:=Aside0.mk hv;clear hv hge hb hx0 hx1 HX HB;have hf0:=HV.out.f0))
    have HSM:=Aside0.mk HLg.out.small
    go_loopg [19] (l0_0.length+1) (fun kq v19 W=> ∃a:Nat,v19= .int .i64 a∧Aside0 (a+kq=l0_0.length+1)∧Aside0 (a≤l0_0.length)∧Aside0 (∀k,k<a*l0_0.length*l0_0.length→pentK l0_0 k=false)∧Aside0 (Below w2.heap.size w2 W))
    case atStart=>exact⟨0,rfl,⟨by omega⟩,⟨by omega⟩,⟨fun k hk=>absurd hk (by simp)⟩,⟨zq397⟩⟩
    case round =>
      clear hf0
      obtain⟨a,rfl,HKa,HKa2,HSa,HBa⟩:=hrel
      have HVa:=Aside0.mk (HV.out.below HBa.out)
      have hf0:=HVa.out.f0
      cases gk with
      |zero=>exact absurd HKa.out (by have:=HKa2.out;omega)
      |succ ka=>
      by_cases hla:a<l0_0.length
      · have hla' : decide (a < l0_0.length) = true := decide_eq_true hla
        have HLA:=Aside0.mk hla
        clear hla
        go_wp2_with fail
        go_loopg [27] (l0_0.length+1) (fun kq v27 W=> ∃c s1:Nat,v27= .int .i64 c∧Aside0 (c+kq=l0_0.length+1)∧Aside0 (c≤l0_0.length)∧Aside0 (s1=a*l0_0.length+c)∧Aside0 (∀k,k<s1*l0_0.length→pentK l0_0 k=false)∧Aside0 (Below w2.heap.size w2 W))
        case atStart=>exact⟨0,a*l0_0.length,rfl,⟨by omega⟩,⟨by omega⟩,⟨by simp⟩,HSa,⟨by repeat(first|exact HBa.out|apply below_alloc|apply pw_below_drewN|apply below_drew1)⟩⟩
        case round =>
          clear hf0 HVa
          obtain⟨c,s1,rfl,HKc,HKc2,HS1,HSc,HBc⟩:=hrel
          have HVc:=Aside0.mk (HV.out.below HBc.out)
          have hf0:=HVc.out.f0
          cases gk with
          |zero=>exact absurd HKc.out (by have:=HKc2.out;omega)
          |succ kc=>
          by_cases hlc:c<l0_0.length
          · have hlc' : decide (c < l0_0.length) = true := decide_eq_true hlc
            have HLC:=Aside0.mk hlc
            clear hlc
            go_wp2_with fail
            go_loopg [35] (l0_0.length+1) (fun kq v35 W=> ∃b:Nat,v35= .int .i64 b∧Aside0 (b+kq=l0_0.length+1)∧Aside0 (b≤l0_0.length)∧Aside0 (∀k,k<s1*l0_0.length+b→pentK l0_0 k=false)∧Aside0 (Below w2.heap.size w2 W))
            case atStart=>exact⟨0,rfl,⟨by omega⟩,⟨by omega⟩,HSc,⟨zq407⟩⟩
            case round =>
              clear hf0 HVc
              obtain⟨b,rfl,HKb,HKb2,HSb,HBb⟩:=hrel
              have HVr:=Aside0.mk (HV.out.below HBb.out)
              cases gk with
              |zero=>exact absurd HKb.out (by have:=HKb2.out;omega)
              |succ kb=>
              by_cases hlb:b<l0_0.length
              · have hlb' : decide (b < l0_0.length) = true := decide_eq_true hlb
                have HLB:=Aside0.mk hlb
                clear hlb
                have Ia:=Aside0.mk (show In l0_0 (a:Int) from ⟨by omega,by have:=HLA.out;omega⟩)
                have Ic:=Aside0.mk (show In l0_0 (c:Int) from ⟨by omega,by have:=HLC.out;omega⟩)
                have Ib:=Aside0.mk (show In l0_0 (b:Int) from ⟨by omega,by have:=HLB.out;omega⟩)
                have hf0:=HVr.out.f0
                have hf1:=HVr.out.f1
                have hf2:=HVr.out.f2
                have k1:=HVr.out.u a Ia.out
                have k2:=HVr.out.u2 a c Ia.out Ic.out
                have k3:=HVr.out.m b Ib.out
                have k4:=HVr.out.m2 b a Ib.out Ia.out
                have k5:=HVr.out.m2 b c Ib.out Ic.out
                have k6:=HVr.out.j b Ib.out
                have k7:=HVr.out.j2 b a Ib.out Ia.out
                have k8:=HVr.out.j2 b c Ib.out Ic.out
                have v1:=HLg.out.le_val Ia.out Ic.out
                simp only [Int.toNat_natCast] at k1 k2 k3 k4 k5 k6 k7 k8 v1
                rw [v1] at k2
                have ba:(a<l0_0.length)=True:=eq_true HLA.out
                have bc:(c<l0_0.length)=True:=eq_true HLC.out
                have bb:(b<l0_0.length)=True:=eq_true HLB.out
                clear v1
                by_cases hac:a=c
                · have ne : ((a : Int) != (c : Int)) = false := by simp [hac]
                  have ne2:(a !=c)=false:=by simp [hac]
                  have HPF:=Aside0.mk (show pentK l0_0 (s1*l0_0.length+b)=false by rw [HS1.out,pentK_at l0_0 HLA.out HLC.out HLB.out];unfold pentP;simp [hac])
                  clear hac k2
                  go_wp2_with fail
                  go_quiet (fail)
                  go_wp2
                  go_roundg kb
                  case measure=>omega
                  case rel => exact ⟨b + 1, by first | go_num | (rw [wrap_small (by omega) (by have := HLB.out; have := HSM.out; omega)]; go_num), ⟨by have := HKb.out; omega⟩, ⟨by have := HLB.out; omega⟩, ⟨fun k hk => by
                    rcases Nat.lt_or_ge k (s1*l0_0.length+b) with h|h
                    · exact HSb.out k h
                    · obtain rfl : k = s1 * l0_0.length + b := by omega
                      exact HPF.out⟩,⟨zq314⟩⟩
                have ne:((a:Int) !=(c:Int))=true:=by rw [bne_iff_ne];omega
                have ne2:(a !=c)=true:=by rw [bne_iff_ne];exact hac
                cases hle:leI l0_0 a c with
                | false =>
                  have HPF:=Aside0.mk (show pentK l0_0 (s1*l0_0.length+b)=false by rw [HS1.out,pentK_at l0_0 HLA.out HLC.out HLB.out];unfold pentP;rw [hle];simp)
                  rw [hle] at k2
                  clear hac
                  go_wp2_with fail
                  go_quiet (fail)
                  go_wp2
                  go_roundg kb
                  case measure=>omega
                  case rel => exact ⟨b + 1, by first | go_num | (rw [wrap_small (by omega) (by have := HLB.out; have := HSM.out; omega)]; go_num), ⟨by have := HKb.out; omega⟩, ⟨by have := HLB.out; omega⟩, ⟨fun k hk => by
                    rcases Nat.lt_or_ge k (s1*l0_0.length+b) with h|h
                    · exact HSb.out k h
                    · obtain rfl : k = s1 * l0_0.length + b := by omega
                      exact HPF.out⟩,⟨zq314⟩⟩
                |true=>
                cases hm:(andI l0_0 b a==andI l0_0 b c) with
                | false =>
                  have HPF:=Aside0.mk (show pentK l0_0 (s1*l0_0.length+b)=false by rw [HS1.out,pentK_at l0_0 HLA.out HLC.out HLB.out];unfold pentP;rw [hm];simp)
                  rw [hle] at k2
                  clear hac
                  go_wp2_with fail
                  go_quiet (fail)
                  go_wp2
                  go_roundg kb
                  case measure=>omega
                  case rel => exact ⟨b + 1, by first | go_num | (rw [wrap_small (by omega) (by have := HLB.out; have := HSM.out; omega)]; go_num), ⟨by have := HKb.out; omega⟩, ⟨by have := HLB.out; omega⟩, ⟨fun k hk => by
                    rcases Nat.lt_or_ge k (s1*l0_0.length+b) with h|h
                    · exact HSb.out k h
                    · obtain rfl : k = s1 * l0_0.length + b := by omega
                      exact HPF.out⟩,⟨zq314⟩⟩
                |true=>
                cases hj:(orI l0_0 b a==orI l0_0 b c) with
                | false =>
                  have HPF:=Aside0.mk (show pentK l0_0 (s1*l0_0.length+b)=false by rw [HS1.out,pentK_at l0_0 HLA.out HLC.out HLB.out];unfold pentP;rw [hj];simp)
                  rw [hle] at k2
                  clear hac
                  go_wp2_with fail
                  go_quiet (fail)
                  go_wp2
                  go_roundg kb
                  case measure=>omega
                  case rel => exact ⟨b + 1, by first | go_num | (rw [wrap_small (by omega) (by have := HLB.out; have := HSM.out; omega)]; go_num), ⟨by have := HKb.out; omega⟩, ⟨by have := HLB.out; omega⟩, ⟨fun k hk => by
                    rcases Nat.lt_or_ge k (s1*l0_0.length+b) with h|h
                    · exact HSb.out k h
                    · obtain rfl : k = s1 * l0_0.length + b := by omega
                      exact HPF.out⟩,⟨zq314⟩⟩
                | true =>
                  have hpt:pentK l0_0 (s1*l0_0.length+b)=true:=by rw [HS1.out,pentK_at l0_0 HLA.out HLC.out HLB.out];unfold pentP;rw [hle,hm,hj];simp [hac]
                  have hlt1:s1<l0_0.length*l0_0.length:=by rw [HS1.out];exact enc_lt HLA.out HLC.out
                  have hn:pentO l0_0=some (s1*l0_0.length+b):=findN_of (enc_lt hlt1 HLB.out) hpt HSb.out
                  have hv:=HH.out
                  unfold pentV at hv
                  rw [hn] at hv
                  dsimp only at hv
                  rw [enc_b HLB.out,enc_s HLB.out,HS1.out,enc_b HLC.out,enc_s HLC.out] at hv
                  simp only [Prod.mk.injEq] at hv
                  obtain⟨rfl,rfl,rfl,rfl⟩:=hv
                  rw [hle] at k2
                  clear hac hn hpt hlt1
                  go_wp2_with fail
                  go_quiet (fail)
                  go_wp2
                  (try simp only [Exit.inBlock,Exit.then])
                  refine bodyPost_ret (results_list (rs:= [.tmp 2,.tmp 3,.tmp 4,.tmp 5]) rfl (by simp) (.tmp (.tmp (.tmp (.tmp .nil))))) rfl ?_
                  exact⟨rfl,by repeat(first|exact below_step HB2.out HBb.out|apply below_alloc|apply pw_below_drewN|apply below_drew1)⟩
              · have hlb' : decide (b < l0_0.length) = false := decide_eq_false hlb
                obtain rfl:b=l0_0.length:=by have:=HKb2.out;omega
                clear hlb
                go_wp2_with fail
                go_roundg kc
                case measure=>omega
                case rel=>exact⟨c+1,s1+1,by first|go_num|(rw [wrap_small (by omega) (by have:=HLC.out;have:=HSM.out;omega)];go_num),⟨by have:=HKc.out;omega⟩,⟨by have:=HLC.out;omega⟩,⟨by have:=HS1.out;omega⟩,⟨fun k hk=>HSb.out k (by rw [Nat.succ_mul] at hk;exact hk)⟩,⟨zq314⟩⟩
          · have hlc' : decide (c < l0_0.length) = false := decide_eq_false hlc
            obtain rfl:c=l0_0.length:=by have:=HKc2.out;omega
            clear hlc
            go_wp2_with fail
            go_roundg ka
            case measure=>omega
            case rel=>exact⟨a+1,by first|go_num|(rw [wrap_small (by omega) (by have:=HLA.out;have:=HSM.out;omega)];go_num),⟨by have:=HKa.out;omega⟩,⟨by have:=HLA.out;omega⟩,⟨fun k hk=>HSc.out k (by rw [Nat.succ_mul] at hk;rw [HS1.out];exact hk)⟩,⟨zq407⟩⟩
      · have hla' : decide (a < l0_0.length) = false := decide_eq_false hla
        obtain rfl:a=l0_0.length:=by have:=HKa2.out;omega
        clear hla
        have hn:pentO l0_0=none:=findN_none.2 HSa.out
        have hv:=HH.out
        unfold pentV at hv
        rw [hn] at hv
        simp only [Prod.mk.injEq] at hv
        obtain⟨rfl,rfl,rfl,rfl⟩:=hv
        go_wp2_with fail
        (try simp only [Exit.inBlock,Exit.then])
        refine bodyPost_ret (results_list (rs:= [.tmp 2,.tmp 3,.tmp 4,.tmp 5]) rfl (by simp) (.tmp (.tmp (.tmp (.tmp .nil))))) rfl ?_
        exact⟨rfl,by repeat(first|exact below_step HB2.out HBa.out|apply below_alloc|apply pw_below_drewN|apply below_drew1)⟩
end Go.Proofs.Ytdoomkcgdcfmlaa.Print
end
section
namespace Go.Proofs.Ytdoomkcgdcfmlaa.Print
open Go.RowKit Go.Proofs.YtdoomkcgdcfmlaaW.PrintWords Go.Proofs.YtdoomkcgdcfmlaaW.PrintLast Go.Proofs.YtdoomkcgdcfmlaaW.PrintMore
def spec_PentagonOf.l0 : Nat → Int → Int → List (List Int) → List Int → Option (Int × Int × Int × Bool)
 | 0, _, _, _, _ => none
 | k + 1, x6, x7, x803000, x803001 => if x7 < (wrap64 ((wrap64 (x6 * x6)) * x6)) then (if x6 = 0 then (none) else (if (wrap64 (Int.tdiv (wrap64 (Int.tdiv x7 x6)) x6)) = (Int.tmod (wrap64 (Int.tdiv x7 x6)) x6) then (spec_PentagonOf.l0 k x6 (wrap64 (x7 + 1)) x803000 x803001) else (if 0 ≤ (wrap64 (Int.tdiv (wrap64 (Int.tdiv x7 x6)) x6)) then (if (wrap64 (Int.tdiv (wrap64 (Int.tdiv x7 x6)) x6)) < (x803000.length : Int) then (if 0 ≤ (Int.tmod (wrap64 (Int.tdiv x7 x6)) x6) then (if (Int.tmod (wrap64 (Int.tdiv x7 x6)) x6) < ((rd_L3 x803000 (wrap64 (Int.tdiv (wrap64 (Int.tdiv x7 x6)) x6))).length : Int) then (if (rd (rd_L3 x803000 (wrap64 (Int.tdiv (wrap64 (Int.tdiv x7 x6)) x6))) (Int.tmod (wrap64 (Int.tdiv x7 x6)) x6)) = 1 then ((spec_l1Meet.f k x803000 (wrap64 (Int.tdiv (wrap64 (Int.tdiv x7 x6)) x6)) (Int.tmod x7 x6)).bind fun t806 => ((spec_l1Meet.f k x803000 (Int.tmod (wrap64 (Int.tdiv x7 x6)) x6) (Int.tmod x7 x6)).bind fun t807 => (if t806 = t807 then ((spec_l1Join.f k x803000 (wrap64 (Int.tdiv (wrap64 (Int.tdiv x7 x6)) x6)) (Int.tmod x7 x6)).bind fun t808 => ((spec_l1Join.f k x803000 (Int.tmod (wrap64 (Int.tdiv x7 x6)) x6) (Int.tmod x7 x6)).bind fun t809 => (if t808 = t809 then (some (wrap64 (Int.tdiv (wrap64 (Int.tdiv x7 x6)) x6), Int.tmod (wrap64 (Int.tdiv x7 x6)) x6, Int.tmod x7 x6, true)) else (spec_PentagonOf.l0 k x6 (wrap64 (x7 + 1)) x803000 x803001)))) else (spec_PentagonOf.l0 k x6 (wrap64 (x7 + 1)) x803000 x803001)))) else (spec_PentagonOf.l0 k x6 (wrap64 (x7 + 1)) x803000 x803001)) else (none)) else (none)) else (none)) else (none)))) else (some ((-1), (-1), (-1), false))
def spec_PentagonOf.f (k : Nat) (l0_0 : List (List Int)) (l0_1 : List Int) : Option (Int × Int × Int × Bool) := (spec_LogicOk.f k l0_0 l0_1).bind fun t803 => (if t803 = true then (spec_PentagonOf.l0 k (l0_1.length : Int) 0 l0_0 l0_1) else (some ((-1), (-1), (-1), false)))
def spec_PentagonOf.T10 : Bool × List (List Nat × List Nat) := (true, [([], []), ([], []), ([0, 1], [0, 1]), ([2], [2]), ([3], [3]), ([4, 3], [3, 4]), ([3], [3]), ([5, 6, 3], [3, 5, 6]), ([7, 3], [3, 7]), ([3], [3]), ([8, 9, 3], [3, 8, 9]), ([10, 3], [3, 10]), ([11, 3], [3, 11]), ([3, 12], [3, 12]), ([13, 3], [13]), ([14], [14]), ([15, 14], [14, 15]), ([14], [14]), ([14], [14]), ([16, 17, 18, 14, 14], [14, 16, 17, 18]), ([14], [14]), ([20, 14], [14, 20]), ([14], [14]), ([14], [14]), ([21, 22, 23, 19, 14], [14, 21, 22, 23]), ([19, 24, 14], [14, 19, 24]), ([14, 25], [14, 25]), ([26, 24], [26]), ([27], [27]), ([28, 27], [27, 28]), ([27], [27]), ([27], [27]), ([29, 30, 31, 27, 27], [27, 29, 30, 31]), ([27], [27]), ([33, 27], [27, 33]), ([27], [27]), ([27], [27]), ([34, 35, 36, 32, 27], [27, 34, 35, 36]), ([32, 37, 27], [27, 32, 37]), ([27, 38], [27, 38])])
def spec_PentagonOf.B10 : List Nat := [0, 0, 3, 7, 15, 31, 15, 127, 255, 15, 1023, 2047, 4095, 8191, 16383, 32767, 65535, 32767, 32767, 524287, 32767, 1081343, 32767, 32767, 16777215, 33554431, 67108863, 134217727, 268435455, 536870911, 268435455, 268435455, 4294967295, 268435455, 8858370047, 268435455, 268435455, 137438953471, 274877906943, 549755813887]
theorem spec_PentagonOf.tab10 : rtab .any (opsOf Try.f41 10) = spec_PentagonOf.T10 := by kernel_rfl
theorem spec_PentagonOf.bits10 : waitsOk spec_PentagonOf.T10.2 spec_PentagonOf.B10 = true := by kernel_rfl
set_option maxHeartbeats 8000000 in
set_option maxRecDepth 100000 in
theorem spec_PentagonOf.calls (k : Nat) (A0_0 : Option Addr) (c0_0 : Nat) (l0_0 : List (List Int)) (A0_1 : Option Addr) (c0_1 : Nat) (l0_1 : List Int) (r1 : Int) (r2 : Int) (r3 : Int) (r4 : Bool) (w : World) (hr0_0 : Kd.C (Kd.slice 3 (Kd.int .i64)) w A0_0 l0_0.length l0_0) (hc0_0 : l0_0.length ≤ c0_0) (hr0_1 : Kd.C (Kd.int .i64) w A0_1 l0_1.length l0_1) (hc0_1 : l0_1.length ≤ c0_1) (h : spec_PentagonOf.f k l0_0 l0_1 = some (r1, r2, r3, r4)) :
  Calls Try.prog 41 #[.agg #[.slice A0_0 l0_0.length c0_0, .slice A0_1 l0_1.length c0_1]] w fun e w' => e = .returned (.tuple #[.int .i64 r1, .int .i64 r2, .int .i64 r3, .bool r4]) ∧ Below w.heap.size w w' := by
 have hu30:=Try.underlying30;have a9:=zqm hr0_0;have b5:=zqm hc0_0;clear hr0_0 hc0_0;have e3:=zqm hr0_1;have e4:=zqm hc0_1;clear hr0_1 hc0_1;have HB:=zqm (Below.refl w.heap.size w);have H:((spec_LogicOk.f k l0_0 l0_1).bind fun e1=>(if e1=true then(spec_PentagonOf.l0 k (l0_1.length:Int) 0 l0_0 l0_1) else(some ((-1),(-1),(-1),false))))=some (r1,r2,r3,r4):=h;clear h;replace H:=Option.bind_eq_some_iff.mp H;obtain⟨e1,g6,H⟩:=H;replace H:(if e1=true then(spec_PentagonOf.l0 k (l0_1.length:Int) 0 l0_0 l0_1) else(some ((-1),(-1),(-1),false)))=some (r1,r2,r3,r4):=H;have A2:=zqm g6;clear g6
 by_cases c3:e1=true
 ·subst c3;(have H1:(spec_PentagonOf.l0 k (l0_1.length:Int) 0 l0_0 l0_1)=some (r1,r2,r3,r4):=by rw [if_pos rfl] at H;exact H);clear H;have H:=H1;clear H1;have H':=zqm H;clear H
  go_enter Try.func41,Try.ntmps41
  go_wp2_with (first|((with_reducible refine gate_dst (N:=1) rfl ?_);refine box_event ?hg (N:=1) ?hd (cs:= #[.slice A0_0 l0_0.length c0_0,.slice A0_1 l0_1.length c0_1]) (t:=30) ?hr ?_;(case hd=>rfl);(case hg=>rfl);(case hr=>first|(go_simp;done)|(go_simp;rfl));intro a7 hg w4 hbox hb;have e2:=zqm (below_step zq0 hb);have a1:=zqm (hbox);have f9:=zqm ((by rw [hg];exact(below_size zq0):w.heap.size≤a7));have a8:=zqm ((by rw [hg];exact(below_size zq0):w.heap.size≤a7));clear HB;have HB:=e2;clear e2 hb hbox hg;have e9:w4.cell? ⟨a7,0,none⟩=some (.slice A0_0 l0_0.length c0_0):=(blk_cell a1.out 0).trans rfl;have f0:w4.cell? ⟨a7,1,none⟩=some (.slice A0_1 l0_1.length c0_1):=(blk_cell a1.out 1).trans rfl;have f1:=blk_frozen a1.out 0;have f2:=blk_frozen a1.out 1)|((with_reducible refine gate_callee (f:=42) rfl ?_);refine goesL_ (some 15) rfl rfl Try.func42 zqk rfl #[.agg #[.slice A0_0 l0_0.length c0_0,.slice A0_1 l0_1.length c0_1]] rfl zq1 ?_;(with_reducible refine(spec_LogicOk.calls k _ _ l0_0 _ _ l0_1 true _ ?side1 ?side2 ?side3 ?side4 A2.out).mono ?_);(case side1=> exact zq57);(case side2=>exact b5.out);(case side3=> exact zq348);(case side4=>exact e4.out);rintro e w6 ⟨rfl,hb⟩;refine⟨_,rfl,?_⟩;replace a1:=zqm (blk_below (g:=a7) (o:= .cells #[.slice A0_0 l0_0.length c0_0,.slice A0_1 l0_1.length c0_1] 30 (0,0)) zq16 hb);replace HB:=zqm (below_step zq9 hb);clear hb))
  go_loopg [7] k (fun kq v7 w'=> ∃(a0:Int),v7= .int .i64 a0∧Aside0 (spec_PentagonOf.l0 kq (l0_1.length:Int) a0 l0_0 l0_1=some (r1,r2,r3,r4))∧Aside0 (kq≤k)∧Aside0 (w'.heap[a7]? =some (.cells #[(.slice A0_0 l0_0.length c0_0),(.slice A0_1 l0_1.length c0_1)] 30 (0,0)))∧Aside0 (Below w.heap.size w w'))
  case atStart=>exact⟨(0),(by first|rfl|(simp;done)|(simp [*];done)),H',⟨Nat.le_refl _⟩,⟨zq16⟩,⟨zq9⟩⟩
  case round=>
   clear H';(try clear p2);(try clear c3);(try clear c4);(try clear e9);(try clear f0);(try clear f1);(try clear f2);obtain⟨a0,rfl,HA,d4,a1,HB⟩:=hrel
   cases gk with
   |zero=>exact absurd HA.out (by simp [spec_PentagonOf.l0])
   |succ k1=>
    have H:=HA.out;clear HA;simp only [spec_PentagonOf.l0] at H
    by_cases c7:a0<(wrap64 ((wrap64 ((l0_1.length:Int)*(l0_1.length:Int)))*(l0_1.length:Int)))
    ·rw [if_pos c7] at H;have h0:decide (a0<(wrap64 ((wrap64 ((l0_1.length:Int)*(l0_1.length:Int)))*(l0_1.length:Int))))=true:=decide_eq_true c7;clear c7
     by_cases c8:(l0_1.length:Int)=0
     ·rw [if_pos c8] at H;exact absurd H (by simp)
     ·rw [if_neg c8] at H;have i0:((l0_1.length:Int)==0)=false:=beq_eq_false_iff_ne.mpr c8;have i1:((l0_1.length:Int) !=0)=true:=bne_iff_ne.mpr c8;have i2: ¬(l0_1= []):=fun h_=>c8 (by rw [h_];rfl)
      by_cases c9:(wrap64 (Int.tdiv (wrap64 (Int.tdiv a0 (l0_1.length:Int))) (l0_1.length:Int)))=(Int.tmod (wrap64 (Int.tdiv a0 (l0_1.length:Int))) (l0_1.length:Int))
      ·rw [if_pos c9] at H;have d5:((wrap64 (Int.tdiv (wrap64 (Int.tdiv a0 (l0_1.length:Int))) (l0_1.length:Int)))==(Int.tmod (wrap64 (Int.tdiv a0 (l0_1.length:Int))) (l0_1.length:Int)))=true:=beq_iff_eq.mpr c9;(have c9w0:((IntKind.i64.wrap (Int.tdiv (wrap64 (Int.tdiv a0 (l0_1.length:Int))) (l0_1.length:Int)))==(Int.tmod (wrap64 (Int.tdiv a0 (l0_1.length:Int))) (l0_1.length:Int)))=true:=by simp only [i64_w];exact d5);have d6:((wrap64 (Int.tdiv (wrap64 (Int.tdiv a0 (l0_1.length:Int))) (l0_1.length:Int))) !=(Int.tmod (wrap64 (Int.tdiv a0 (l0_1.length:Int))) (l0_1.length:Int)))=false:=bne_eq_false_iff_eq.mpr c9;(have c9w1:((IntKind.i64.wrap (Int.tdiv (wrap64 (Int.tdiv a0 (l0_1.length:Int))) (l0_1.length:Int))) !=(Int.tmod (wrap64 (Int.tdiv a0 (l0_1.length:Int))) (l0_1.length:Int)))=false:=by simp only [i64_w];exact d6);clear c9;have H':=zqm H;clear H;(try go_wp2);replace a1:=zqm (blk_drew a1.out);replace HB:=zqm (below_drew1 HB.out);refine start_ (n:=40) (S:=fun w'=>True) (ds:= []) (zqb 40 0) zqk rfl rfl trivial (fun hHeld=>?_);refine with_tabW spec_PentagonOf.tab10 spec_PentagonOf.bits10 (fun HT_ HW_=>?_);generalize wr.drew=i3 at a1 HB hHeld ⊢;refine pure_ (i:=0) (N:=some 39) (v:=?_) (a':=?_) (zqb 40 1) rfl rfl (any_of HT_.out zqk) (fun _ _ _ h=>h) (Or.inl ⟨by rfl,?_⟩) ?_ ?_;rotate_left
       ·exact zqt
       rotate_left
       ·exact zqs
       refine pure_ (i:=1) (N:=some 40) (v:=?_) (a':=?_) (zqb 40 3) rfl rfl (any_of HT_.out zqk) (fun _ _ _ h=>h) (Or.inl ⟨by rfl,?_⟩) ?_ ?_;rotate_left
       ·exact zqt
       rotate_left
       ·exact zqs
       refine pure_ (i:=2) (N:=some 41) (v:=?_) (a':=?_) (zqb 40 7) rfl rfl (any_of HT_.out zqk) (fun _ _ _ h=>h) (Or.inl ⟨by rfl,?_⟩) ?_ ?_;rotate_left
       ·exact zqt
       rotate_left
       ·exact zqs
       refine pure_ (i:=3) (N:=some 42) (v:=?_) (a':=?_) (zqb 40 15) rfl rfl (any_of HT_.out zqk) (fun _ _ _ h=>h) (Or.inl ⟨by rfl,?_⟩) ?_ ?_;rotate_left
       ·exact zqt
       rotate_left
       ·exact zqs
       refine pure_ (i:=4) (N:=some 43) (v:=undef) (a':=?_) (zqb 40 31) rfl rfl (any_of HT_.out zqk) (fun _ _ _ h=>h) (Or.inr ⟨by rfl,rfl⟩) ?_ ?_;rotate_left
       ·exact zqs
       refine pure_ (i:=5) (N:=some 44) (v:=undef) (a':=?_) (zqb 40 63) rfl rfl (any_of HT_.out zqk) (fun _ _ _ h=>h) (Or.inr ⟨by rfl,rfl⟩) ?_ ?_;rotate_left
       ·exact zqs
       refine pure_ (i:=6) (N:=some 45) (v:=undef) (a':=?_) (zqb 40 127) rfl rfl (any_of HT_.out zqk) (fun _ _ _ h=>h) (Or.inr ⟨by rfl,rfl⟩) ?_ ?_;rotate_left
       ·exact zqs
       refine pure_ (i:=7) (N:=some 46) (v:=undef) (a':=?_) (zqb 40 255) rfl rfl (any_of HT_.out zqk) (fun _ _ _ h=>h) (Or.inr ⟨by rfl,rfl⟩) ?_ ?_;rotate_left
       ·exact zqs
       refine pure_ (i:=8) (N:=some 47) (v:=undef) (a':=?_) (zqb 40 511) rfl rfl (any_of HT_.out zqk) (fun _ _ _ h=>h) (Or.inr ⟨by rfl,rfl⟩) ?_ ?_;rotate_left
       ·exact zqs
       refine pure_ (i:=9) (N:=some 48) (v:=undef) (a':=?_) (zqb 40 1023) rfl rfl (any_of HT_.out zqk) (fun _ _ _ h=>h) (Or.inr ⟨by rfl,rfl⟩) ?_ ?_;rotate_left
       ·exact zqs
       refine pure_ (i:=10) (N:=some 49) (v:=undef) (a':=?_) (zqb 40 2047) rfl rfl (any_of HT_.out zqk) (fun _ _ _ h=>h) (Or.inr ⟨by rfl,rfl⟩) ?_ ?_;rotate_left
       ·exact zqs
       refine pure_ (i:=11) (N:=some 50) (v:=undef) (a':=?_) (zqb 40 4095) rfl rfl (any_of HT_.out zqk) (fun _ _ _ h=>h) (Or.inr ⟨by rfl,rfl⟩) ?_ ?_;rotate_left
       ·exact zqs
       refine pure_ (i:=12) (N:=some 51) (v:=undef) (a':=?_) (zqb 40 8191) rfl rfl (any_of HT_.out zqk) (fun _ _ _ h=>h) (Or.inr ⟨by rfl,rfl⟩) ?_ ?_;rotate_left
       ·exact zqs
       refine pure_ (i:=13) (N:=some 52) (v:=?_) (a':=?_) (zqb 40 16383) rfl rfl (any_of HT_.out zqk) (fun _ _ _ h=>h) (Or.inl ⟨by rfl,?_⟩) ?_ ?_;rotate_left
       ·exact zqt
       rotate_left
       ·exact zqs
       refine pure_ (i:=14) (N:=some 53) (v:=?_) (a':=?_) (zqb 40 32767) rfl rfl (any_of HT_.out zqk) (fun _ _ _ h=>h) (Or.inl ⟨by rfl,?_⟩) ?_ ?_;rotate_left
       ·exact zqt
       rotate_left
       ·exact zqs
       refine pure_ (i:=15) (N:=some 54) (v:=undef) (a':=?_) (zqb 40 65535) rfl rfl (any_of HT_.out zqk) (fun _ _ _ h=>h) (Or.inr ⟨by rfl,rfl⟩) ?_ ?_;rotate_left
       ·exact zqs
       refine pure_ (i:=16) (N:=some 55) (v:=undef) (a':=?_) (zqb 40 131071) rfl rfl (any_of HT_.out zqk) (fun _ _ _ h=>h) (Or.inr ⟨by rfl,rfl⟩) ?_ ?_;rotate_left
       ·exact zqs
       refine pure_ (i:=17) (N:=some 56) (v:=undef) (a':=?_) (zqb 40 262143) rfl rfl (any_of HT_.out zqk) (fun _ _ _ h=>h) (Or.inr ⟨by rfl,rfl⟩) ?_ ?_;rotate_left
       ·exact zqs
       refine pure_ (i:=18) (N:=some 57) (v:=undef) (a':=?_) (zqb 40 524287) rfl rfl (any_of HT_.out zqk) (fun _ _ _ h=>h) (Or.inr ⟨by rfl,rfl⟩) ?_ ?_;rotate_left
       ·exact zqs
       refine pure_ (i:=19) (N:=some 58) (v:=undef) (a':=?_) (zqb 40 1048575) rfl rfl (any_of HT_.out zqk) (fun _ _ _ h=>h) (Or.inr ⟨by rfl,rfl⟩) ?_ ?_;rotate_left
       ·exact zqs
       refine pure_ (i:=20) (N:=some 59) (v:=undef) (a':=?_) (zqb 40 2097151) rfl rfl (any_of HT_.out zqk) (fun _ _ _ h=>h) (Or.inr ⟨by rfl,rfl⟩) ?_ ?_;rotate_left
       ·exact zqs
       refine pure_ (i:=21) (N:=some 60) (v:=undef) (a':=?_) (zqb 40 4194303) rfl rfl (any_of HT_.out zqk) (fun _ _ _ h=>h) (Or.inr ⟨by rfl,rfl⟩) ?_ ?_;rotate_left
       ·exact zqs
       refine pure_ (i:=22) (N:=some 61) (v:=undef) (a':=?_) (zqb 40 8388607) rfl rfl (any_of HT_.out zqk) (fun _ _ _ h=>h) (Or.inr ⟨by rfl,rfl⟩) ?_ ?_;rotate_left
       ·exact zqs
       refine pure_ (i:=23) (N:=some 62) (v:=undef) (a':=?_) (zqb 40 16777215) rfl rfl (any_of HT_.out zqk) (fun _ _ _ h=>h) (Or.inr ⟨by rfl,rfl⟩) ?_ ?_;rotate_left
       ·exact zqs
       refine pure_ (i:=24) (N:=some 63) (v:=undef) (a':=?_) (zqb 40 33554431) rfl rfl (any_of HT_.out zqk) (fun _ _ _ h=>h) (Or.inr ⟨by rfl,rfl⟩) ?_ ?_;rotate_left
       ·exact zqs
       refine pure_ (i:=25) (N:=some 64) (v:=undef) (a':=?_) (zqb 40 67108863) rfl rfl (any_of HT_.out zqk) (fun _ _ _ h=>h) (Or.inr ⟨by rfl,rfl⟩) ?_ ?_;rotate_left
       ·exact zqs
       refine pure_ (i:=26) (N:=some 65) (v:=?_) (a':=?_) (zqb 40 134217727) rfl rfl (any_of HT_.out zqk) (fun _ _ _ h=>h) (Or.inl ⟨by rfl,?_⟩) ?_ ?_;rotate_left
       ·exact zqt
       rotate_left
       ·exact zqs
       refine pure_ (i:=27) (N:=some 66) (v:=?_) (a':=?_) (zqb 40 268435455) rfl rfl (any_of HT_.out zqk) (fun _ _ _ h=>h) (Or.inl ⟨by rfl,?_⟩) ?_ ?_;rotate_left
       ·exact zqt
       rotate_left
       ·exact zqs
       refine pure_ (i:=28) (N:=some 67) (v:=undef) (a':=?_) (zqb 40 536870911) rfl rfl (any_of HT_.out zqk) (fun _ _ _ h=>h) (Or.inr ⟨by rfl,rfl⟩) ?_ ?_;rotate_left
       ·exact zqs
       refine pure_ (i:=29) (N:=some 68) (v:=undef) (a':=?_) (zqb 40 1073741823) rfl rfl (any_of HT_.out zqk) (fun _ _ _ h=>h) (Or.inr ⟨by rfl,rfl⟩) ?_ ?_;rotate_left
       ·exact zqs
       refine pure_ (i:=30) (N:=some 69) (v:=undef) (a':=?_) (zqb 40 2147483647) rfl rfl (any_of HT_.out zqk) (fun _ _ _ h=>h) (Or.inr ⟨by rfl,rfl⟩) ?_ ?_;rotate_left
       ·exact zqs
       refine pure_ (i:=31) (N:=some 70) (v:=undef) (a':=?_) (zqb 40 4294967295) rfl rfl (any_of HT_.out zqk) (fun _ _ _ h=>h) (Or.inr ⟨by rfl,rfl⟩) ?_ ?_;rotate_left
       ·exact zqs
       refine pure_ (i:=32) (N:=some 71) (v:=undef) (a':=?_) (zqb 40 8589934591) rfl rfl (any_of HT_.out zqk) (fun _ _ _ h=>h) (Or.inr ⟨by rfl,rfl⟩) ?_ ?_;rotate_left
       ·exact zqs
       refine pure_ (i:=33) (N:=some 72) (v:=undef) (a':=?_) (zqb 40 17179869183) rfl rfl (any_of HT_.out zqk) (fun _ _ _ h=>h) (Or.inr ⟨by rfl,rfl⟩) ?_ ?_;rotate_left
       ·exact zqs
       refine pure_ (i:=34) (N:=some 73) (v:=undef) (a':=?_) (zqb 40 34359738367) rfl rfl (any_of HT_.out zqk) (fun _ _ _ h=>h) (Or.inr ⟨by rfl,rfl⟩) ?_ ?_;rotate_left
       ·exact zqs
       refine pure_ (i:=35) (N:=some 74) (v:=undef) (a':=?_) (zqb 40 68719476735) rfl rfl (any_of HT_.out zqk) (fun _ _ _ h=>h) (Or.inr ⟨by rfl,rfl⟩) ?_ ?_;rotate_left
       ·exact zqs
       refine pure_ (i:=36) (N:=some 75) (v:=undef) (a':=?_) (zqb 40 137438953471) rfl rfl (any_of HT_.out zqk) (fun _ _ _ h=>h) (Or.inr ⟨by rfl,rfl⟩) ?_ ?_;rotate_left
       ·exact zqs
       refine pure_ (i:=37) (N:=some 76) (v:=undef) (a':=?_) (zqb 40 274877906943) rfl rfl (any_of HT_.out zqk) (fun _ _ _ h=>h) (Or.inr ⟨by rfl,rfl⟩) ?_ ?_;rotate_left
       ·exact zqs
       refine pure_ (i:=38) (N:=some 77) (v:=undef) (a':=?_) (zqb 40 549755813887) rfl rfl (any_of HT_.out zqk) (fun _ _ _ h=>h) (Or.inr ⟨by rfl,rfl⟩) ?_ ?_;rotate_left
       ·exact zqs
       refine pure_ (i:=39) (N:=some 78) (v:=?_) (a':=?_) (zqb 40 1099511627775) rfl rfl (any_of HT_.out zqk) (fun _ _ _ h=>h) (Or.inl ⟨by rfl,?_⟩) ?_ ?_;rotate_left
       ·exact zqt
       rotate_left
       ·exact zqs
       refine done_ (done_of HT_.out zqk) ?_;try go_wp2
       go_roundg k1
       (case measure=>have:=d4.out;omega);case rel=>exact⟨(wrap64 (a0+1)),(by first|rfl|(simp;done)|(simp [*];done)),H',⟨by have:=d4.out;omega⟩,⟨zq16⟩,⟨zq9⟩⟩
      ·rw [if_neg c9] at H;have d5:((wrap64 (Int.tdiv (wrap64 (Int.tdiv a0 (l0_1.length:Int))) (l0_1.length:Int)))==(Int.tmod (wrap64 (Int.tdiv a0 (l0_1.length:Int))) (l0_1.length:Int)))=false:=beq_eq_false_iff_ne.mpr c9;(have c9w0:((IntKind.i64.wrap (Int.tdiv (wrap64 (Int.tdiv a0 (l0_1.length:Int))) (l0_1.length:Int)))==(Int.tmod (wrap64 (Int.tdiv a0 (l0_1.length:Int))) (l0_1.length:Int)))=false:=by simp only [i64_w];exact d5);have d6:((wrap64 (Int.tdiv (wrap64 (Int.tdiv a0 (l0_1.length:Int))) (l0_1.length:Int))) !=(Int.tmod (wrap64 (Int.tdiv a0 (l0_1.length:Int))) (l0_1.length:Int)))=true:=bne_iff_ne.mpr c9;(have c9w1:((IntKind.i64.wrap (Int.tdiv (wrap64 (Int.tdiv a0 (l0_1.length:Int))) (l0_1.length:Int))) !=(Int.tmod (wrap64 (Int.tdiv a0 (l0_1.length:Int))) (l0_1.length:Int)))=true:=by simp only [i64_w];exact d6);obtain⟨a2,c1⟩: ∃j_:Int,(wrap64 (Int.tdiv (wrap64 (Int.tdiv a0 (l0_1.length:Int))) (l0_1.length:Int)))=j_:=⟨_,rfl⟩;(replace H:(if 0≤(a2) then(if(a2)<(l0_0.length:Int) then(if 0≤(Int.tmod (wrap64 (Int.tdiv a0 (l0_1.length:Int))) (l0_1.length:Int)) then(if(Int.tmod (wrap64 (Int.tdiv a0 (l0_1.length:Int))) (l0_1.length:Int))<((rd_L3 l0_0 (a2)).length:Int) then(if(rd (rd_L3 l0_0 (a2)) (Int.tmod (wrap64 (Int.tdiv a0 (l0_1.length:Int))) (l0_1.length:Int)))=1 then((spec_l1Meet.f k1 l0_0 (a2) (Int.tmod a0 (l0_1.length:Int))).bind fun c2=>((spec_l1Meet.f k1 l0_0 (Int.tmod (wrap64 (Int.tdiv a0 (l0_1.length:Int))) (l0_1.length:Int)) (Int.tmod a0 (l0_1.length:Int))).bind fun b6=>(if c2=b6 then((spec_l1Join.f k1 l0_0 (a2) (Int.tmod a0 (l0_1.length:Int))).bind fun b4=>((spec_l1Join.f k1 l0_0 (Int.tmod (wrap64 (Int.tdiv a0 (l0_1.length:Int))) (l0_1.length:Int)) (Int.tmod a0 (l0_1.length:Int))).bind fun b3=>(if b4=b3 then(some (a2,Int.tmod (wrap64 (Int.tdiv a0 (l0_1.length:Int))) (l0_1.length:Int),Int.tmod a0 (l0_1.length:Int),true)) else(spec_PentagonOf.l0 k1 (l0_1.length:Int) (wrap64 (a0+1)) l0_0 l0_1)))) else(spec_PentagonOf.l0 k1 (l0_1.length:Int) (wrap64 (a0+1)) l0_0 l0_1)))) else(spec_PentagonOf.l0 k1 (l0_1.length:Int) (wrap64 (a0+1)) l0_0 l0_1)) else(none)) else(none)) else(none)) else(none))=some (r1,r2,r3,r4):=by first|(rw [c1] at H;exact H)|(simp only [c1] at H ⊢;exact H));(try rw [c1] at d5);(try rw [c1] at d6);have h5:(IntKind.i64.wrap (Int.tdiv (wrap64 (Int.tdiv a0 (l0_1.length:Int))) (l0_1.length:Int)))=a2:=(i64_w _).trans c1
       by_cases e5:0≤(a2)
       ·rw [if_pos e5] at H;have h6:decide (0≤(a2))=true:=decide_eq_true e5;clear e5
        by_cases e6:(a2)<(l0_0.length:Int)
        ·rw [if_pos e6] at H;have h7:decide ((a2)<(l0_0.length:Int))=true:=decide_eq_true e6;clear e6;obtain⟨a3,c6⟩: ∃j_:Int,(Int.tmod (wrap64 (Int.tdiv a0 (l0_1.length:Int))) (l0_1.length:Int))=j_:=⟨_,rfl⟩;(replace H:(if 0≤(a3) then(if(a3)<((rd_L3 l0_0 (a2)).length:Int) then(if(rd (rd_L3 l0_0 (a2)) (a3))=1 then((spec_l1Meet.f k1 l0_0 (a2) (Int.tmod a0 (l0_1.length:Int))).bind fun c2=>((spec_l1Meet.f k1 l0_0 (a3) (Int.tmod a0 (l0_1.length:Int))).bind fun b6=>(if c2=b6 then((spec_l1Join.f k1 l0_0 (a2) (Int.tmod a0 (l0_1.length:Int))).bind fun b4=>((spec_l1Join.f k1 l0_0 (a3) (Int.tmod a0 (l0_1.length:Int))).bind fun b3=>(if b4=b3 then(some (a2,a3,Int.tmod a0 (l0_1.length:Int),true)) else(spec_PentagonOf.l0 k1 (l0_1.length:Int) (wrap64 (a0+1)) l0_0 l0_1)))) else(spec_PentagonOf.l0 k1 (l0_1.length:Int) (wrap64 (a0+1)) l0_0 l0_1)))) else(spec_PentagonOf.l0 k1 (l0_1.length:Int) (wrap64 (a0+1)) l0_0 l0_1)) else(none)) else(none))=some (r1,r2,r3,r4):=by first|(rw [c6] at H;exact H)|(simp only [c6] at H ⊢;exact H));(try rw [c6] at d5);(try rw [c6] at d6)
         by_cases e7:0≤(a3)
         ·rw [if_pos e7] at H;have h8:decide (0≤(a3))=true:=decide_eq_true e7;clear e7
          by_cases e8:(a3)<((rd_L3 l0_0 (a2)).length:Int)
          ·rw [if_pos e8] at H;have h9:decide ((a3)<((rd_L3 l0_0 (a2)).length:Int))=true:=decide_eq_true e8;clear e8
           by_cases d7:(rd (rd_L3 l0_0 (a2)) (a3))=1
           ·rw [if_pos d7] at H;have g0:((rd (rd_L3 l0_0 (a2)) (a3))==1)=true:=beq_iff_eq.mpr d7;have g1:((rd (rd_L3 l0_0 (a2)) (a3)) !=1)=false:=bne_eq_false_iff_eq.mpr d7;clear d7;replace H:=Option.bind_eq_some_iff.mp H;obtain⟨c2,f3,H⟩:=H;replace H:((spec_l1Meet.f k1 l0_0 (a3) (Int.tmod a0 (l0_1.length:Int))).bind fun b6=>(if c2=b6 then((spec_l1Join.f k1 l0_0 (a2) (Int.tmod a0 (l0_1.length:Int))).bind fun b4=>((spec_l1Join.f k1 l0_0 (a3) (Int.tmod a0 (l0_1.length:Int))).bind fun b3=>(if b4=b3 then(some (a2,a3,Int.tmod a0 (l0_1.length:Int),true)) else(spec_PentagonOf.l0 k1 (l0_1.length:Int) (wrap64 (a0+1)) l0_0 l0_1)))) else(spec_PentagonOf.l0 k1 (l0_1.length:Int) (wrap64 (a0+1)) l0_0 l0_1)))=some (r1,r2,r3,r4):=H;have f4:=zqm f3;clear f3;replace H:=Option.bind_eq_some_iff.mp H;obtain⟨b6,f5,H⟩:=H;replace H:(if c2=b6 then((spec_l1Join.f k1 l0_0 (a2) (Int.tmod a0 (l0_1.length:Int))).bind fun b4=>((spec_l1Join.f k1 l0_0 (a3) (Int.tmod a0 (l0_1.length:Int))).bind fun b3=>(if b4=b3 then(some (a2,a3,Int.tmod a0 (l0_1.length:Int),true)) else(spec_PentagonOf.l0 k1 (l0_1.length:Int) (wrap64 (a0+1)) l0_0 l0_1)))) else(spec_PentagonOf.l0 k1 (l0_1.length:Int) (wrap64 (a0+1)) l0_0 l0_1))=some (r1,r2,r3,r4):=H;have f6:=zqm f5;clear f5
            by_cases d8:c2=b6
            ·rw [if_pos d8] at H;have g2:(c2==b6)=true:=beq_iff_eq.mpr d8;have g3:(c2 !=b6)=false:=bne_eq_false_iff_eq.mpr d8;clear d8;replace H:=Option.bind_eq_some_iff.mp H;obtain⟨b4,f7,H⟩:=H;replace H:((spec_l1Join.f k1 l0_0 (a3) (Int.tmod a0 (l0_1.length:Int))).bind fun b3=>(if b4=b3 then(some (a2,a3,Int.tmod a0 (l0_1.length:Int),true)) else(spec_PentagonOf.l0 k1 (l0_1.length:Int) (wrap64 (a0+1)) l0_0 l0_1)))=some (r1,r2,r3,r4):=H;have g7:=zqm f7;clear f7;replace H:=Option.bind_eq_some_iff.mp H;obtain⟨b3,f8,H⟩:=H;replace H:(if b4=b3 then(some (a2,a3,Int.tmod a0 (l0_1.length:Int),true)) else(spec_PentagonOf.l0 k1 (l0_1.length:Int) (wrap64 (a0+1)) l0_0 l0_1))=some (r1,r2,r3,r4):=H;have g8:=zqm f8;clear f8
             by_cases d9:b4=b3
             ·rw [if_pos d9] at H;have g4:(b4==b3)=true:=beq_iff_eq.mpr d9;have g5:(b4 !=b3)=false:=bne_eq_false_iff_eq.mpr d9;clear d9;simp only [Option.some.injEq,Prod.mk.injEq] at H;obtain⟨rfl,rfl,rfl,rfl⟩:=H;(try go_wp2);replace a1:=zqm (blk_drew a1.out);replace HB:=zqm (below_drew1 HB.out);have b7:0≤((a2):Int):=zqo;have b8:(a2)<(l0_0.length:Int):=zqo;obtain⟨a6,e0,d0,d1,a4,b0,b1⟩:=at_L3 a9.out (a2) b7 b8;have hw804_0:=a4
              cases d1
              replace a4:=(HB.out.cell (World.block_lt_of_cell? w _ a4)).trans a4;have b2:=zqm b1;have d3:=zqm b0;clear b1 b0;replace b7:=eq_true b7;replace b8:=eq_true b8;have b9:0≤((a3):Int):=zqo;have c0:(a3)<((rd_L3 l0_0 (a2)).length:Int):=zqo;obtain⟨c5,d2,a5⟩:=Kd.at_int b2.out (a3) b9 c0;have hw805_0:=a5
              cases d2
              replace a5:=(HB.out.cell (World.block_lt_of_cell? w _ a5)).trans a5;replace b9:=eq_true b9;replace c0:=eq_true c0;refine start_ (n:=40) (S:=fun w'=>w'.cell? ⟨a7,0,none⟩=some (.slice (some a6) l0_0.length c0_0)∧w'.cell? ⟨a7,1,none⟩=some (.slice A0_1 l0_1.length c0_1)∧w'.cell? (a6.add ((a2)).toNat)=some (.slice (some c5) (rd_L3 l0_0 (a2)).length d0)∧w'.cell? (c5.add ((a3)).toNat)=some (.int .i64 (rd (rd_L3 l0_0 (a2)) (a3)))) (ds:= []) (zqb 40 0) zqk rfl rfl ⟨(blk_cell a1.out 0).trans rfl,(blk_cell a1.out 1).trans rfl,((HB.out.cell (World.block_lt_of_cell? w _ hw804_0)).trans hw804_0),((HB.out.cell (World.block_lt_of_cell? w _ hw805_0)).trans hw805_0)⟩ (fun hHeld=>?_);refine with_tabW spec_PentagonOf.tab10 spec_PentagonOf.bits10 (fun HT_ HW_=>?_);generalize wr.drew=i4 at a1 HB b2 a4 a5 hHeld ⊢;refine pure_ (i:=0) (N:=some 39) (v:=?_) (a':=?_) (zqb 40 1) rfl rfl (any_of HT_.out zqk) (fun _ _ _ h=>h) (Or.inl ⟨by rfl,?_⟩) ?_ ?_;rotate_left
              ·exact zqt
              rotate_left
              ·exact zqs
              refine pure_ (i:=1) (N:=some 40) (v:=?_) (a':=?_) (zqb 40 3) rfl rfl (any_of HT_.out zqk) (fun _ _ _ h=>h) (Or.inl ⟨by rfl,?_⟩) ?_ ?_;rotate_left
              ·exact zqt
              rotate_left
              ·exact zqs
              refine pure_ (i:=2) (N:=some 41) (v:=?_) (a':=?_) (zqb 40 7) rfl rfl (any_of HT_.out zqk) (fun _ _ _ h=>h) (Or.inl ⟨by rfl,?_⟩) ?_ ?_;rotate_left
              ·exact zqt
              rotate_left
              ·exact zqs
              refine pure_ (i:=3) (N:=some 42) (v:=?_) (a':=?_) (zqb 40 15) rfl rfl (any_of HT_.out zqk) (fun _ _ _ h=>h) (Or.inl ⟨by rfl,?_⟩) ?_ ?_;rotate_left
              ·exact zqt
              rotate_left
              ·exact zqs
              refine pure_ (i:=4) (N:=some 43) (v:=?_) (a':=?_) (zqb 40 31) rfl rfl (any_of HT_.out zqk) (fun _ _ _ h=>h) (Or.inl ⟨by rfl,?_⟩) ?_ ?_;rotate_left
              ·exact zqt
              rotate_left
              ·exact zqs
              refine pure_ (i:=6) (N:=some 45) (v:=?_) (a':=?_) (zqb 40 95) rfl rfl (any_of HT_.out zqk) (fun _ _ _ h=>h) (Or.inl ⟨by rfl,?_⟩) ?_ ?_;rotate_left
              ·exact zqt
              rotate_left
              ·exact zqs
              refine pure_ (i:=9) (N:=some 48) (v:=?_) (a':=?_) (zqb 40 607) rfl rfl (any_of HT_.out zqk) (fun _ _ _ h=>h) (Or.inl ⟨by rfl,?_⟩) ?_ ?_;rotate_left
              ·exact zqt
              rotate_left
              ·exact zqs
              refine take_ (i:=5) (N:=some 44) (v:=?_) (a':=?_) (zqb 40 639) rfl rfl (take_ofW HT_.out HW_.out zqk) (fun _ _ _ h=>h) (Or.inl ⟨by rfl,?_⟩) hHeld ?_ ?_;rotate_left
              ·rintro w' ⟨s0,s1,s2,s3⟩;go_simp;with_reducible rfl
              rotate_left
              ·exact zqs
              refine pure_ (i:=7) (N:=some 46) (v:=?_) (a':=?_) (zqb 40 767) rfl rfl (any_of HT_.out zqk) (fun _ _ _ h=>h) (Or.inl ⟨by rfl,?_⟩) ?_ ?_;rotate_left
              ·exact zqt
              rotate_left
              ·exact zqs
              refine take_ (i:=8) (N:=some 47) (v:=?_) (a':=?_) (zqb 40 1023) rfl rfl (take_ofW HT_.out HW_.out zqk) (fun _ _ _ h=>h) (Or.inl ⟨by rfl,?_⟩) hHeld ?_ ?_;rotate_left
              ·rintro w' ⟨s0,s1,s2,s3⟩;go_simp;with_reducible rfl
              rotate_left
              ·exact zqs
              refine pure_ (i:=10) (N:=some 49) (v:=?_) (a':=?_) (zqb 40 2047) rfl rfl (any_of HT_.out zqk) (fun _ _ _ h=>h) (Or.inl ⟨by rfl,?_⟩) ?_ ?_;rotate_left
              ·exact zqt
              rotate_left
              ·exact zqs
              refine take_ (i:=11) (N:=some 50) (v:=?_) (a':=?_) (zqb 40 4095) rfl rfl (take_ofW HT_.out HW_.out zqk) (fun _ _ _ h=>h) (Or.inl ⟨by rfl,?_⟩) hHeld ?_ ?_;rotate_left
              ·rintro w' ⟨s0,s1,s2,s3⟩;go_simp;with_reducible rfl
              rotate_left
              ·exact zqs
              refine pure_ (i:=12) (N:=some 51) (v:=?_) (a':=?_) (zqb 40 8191) rfl rfl (any_of HT_.out zqk) (fun _ _ _ h=>h) (Or.inl ⟨by rfl,?_⟩) ?_ ?_;rotate_left
              ·exact zqt
              rotate_left
              ·exact zqs
              refine pure_ (i:=13) (N:=some 52) (v:=?_) (a':=?_) (zqb 40 16383) rfl rfl (any_of HT_.out zqk) (fun _ _ _ h=>h) (Or.inl ⟨by rfl,?_⟩) ?_ ?_;rotate_left
              ·exact zqt
              rotate_left
              ·exact zqs
              refine pure_ (i:=14) (N:=some 53) (v:=?_) (a':=?_) (zqb 40 32767) rfl rfl (any_of HT_.out zqk) (fun _ _ _ h=>h) (Or.inl ⟨by rfl,?_⟩) ?_ ?_;rotate_left
              ·exact zqt
              rotate_left
              ·exact zqs
              refine pure_ (i:=15) (N:=some 54) (v:=?_) (a':=?_) (zqb 40 65535) rfl rfl (any_of HT_.out zqk) (fun _ _ _ h=>h) (Or.inl ⟨by rfl,?_⟩) ?_ ?_;rotate_left
              ·exact zqt
              rotate_left
              ·exact zqs
              refine pure_ (i:=17) (N:=some 56) (v:=?_) (a':=?_) (zqb 40 196607) rfl rfl (any_of HT_.out zqk) (fun _ _ _ h=>h) (Or.inl ⟨by rfl,?_⟩) ?_ ?_;rotate_left
              ·exact zqt
              rotate_left
              ·exact zqs
              refine pure_ (i:=18) (N:=some 57) (v:=?_) (a':=?_) (zqb 40 458751) rfl rfl (any_of HT_.out zqk) (fun _ _ _ h=>h) (Or.inl ⟨by rfl,?_⟩) ?_ ?_;rotate_left
              ·exact zqt
              rotate_left
              ·exact zqs
              refine pure_ (i:=20) (N:=some 59) (v:=?_) (a':=?_) (zqb 40 1507327) rfl rfl (any_of HT_.out zqk) (fun _ _ _ h=>h) (Or.inl ⟨by rfl,?_⟩) ?_ ?_;rotate_left
              ·exact zqt
              rotate_left
              ·exact zqs
              refine pure_ (i:=22) (N:=some 61) (v:=?_) (a':=?_) (zqb 40 5701631) rfl rfl (any_of HT_.out zqk) (fun _ _ _ h=>h) (Or.inl ⟨by rfl,?_⟩) ?_ ?_;rotate_left
              ·exact zqt
              rotate_left
              ·exact zqs
              refine pure_ (i:=23) (N:=some 62) (v:=?_) (a':=?_) (zqb 40 14090239) rfl rfl (any_of HT_.out zqk) (fun _ _ _ h=>h) (Or.inl ⟨by rfl,?_⟩) ?_ ?_;rotate_left
              ·exact zqt
              rotate_left
              ·exact zqs
              refine take_ (i:=16) (N:=some 55) (v:=?_) (a':=?_) (zqb 40 14155775) rfl rfl (take_ofW HT_.out HW_.out zqk) (fun _ _ _ h=>h) (Or.inl ⟨by rfl,?_⟩) hHeld ?_ ?_;rotate_left
              ·rintro w' ⟨s0,s1,s2,s3⟩;go_simp;with_reducible rfl
              rotate_left
              ·exact zqs
              refine take_ (i:=21) (N:=some 60) (v:=?_) (a':=?_) (zqb 40 16252927) rfl rfl (take_ofW HT_.out HW_.out zqk) (fun _ _ _ h=>h) (Or.inl ⟨by rfl,?_⟩) hHeld ?_ ?_;rotate_left
              ·rintro w' ⟨s0,s1,s2,s3⟩;go_simp;with_reducible rfl
              rotate_left
              ·exact zqs
              refine one_ (i:=19) (N:=some 58) (zqb 40 16777215) rfl rfl (one_of HT_.out zqk) (by decide) (fun K hK=>?_);refine goes_ Try.func81 zqk rfl #[.slice (some a6) l0_0.length c0_0,.int .i64 a2,.int .i64 (Int.tmod a0 (l0_1.length:Int))] (by rfl) rfl rfl zq163 ?_;(with_reducible refine(spec_l1Meet.calls k1 _ _ l0_0 a2 (Int.tmod a0 (l0_1.length:Int)) c2 _ ?side1 ?side2 f4.out).mono ?_);(case side1=> exact zq57);(case side2=>exact b5.out);rintro e w' ⟨rfl,⟨nd,rfl⟩⟩;refine⟨_,rfl,?_⟩;refine hK.out _ _ ⟨(blk_cell a1.out 0).trans rfl,(blk_cell a1.out 1).trans rfl,((HB.out.cell (World.block_lt_of_cell? w _ hw804_0)).trans hw804_0),((HB.out.cell (World.block_lt_of_cell? w _ hw805_0)).trans hw805_0)⟩ (fun hHeld=>?_);clear hK K;refine norm_ (a':=?_) ?_ ?_;rotate_left
              ·show Act.put _ (some 58) _=_;exact zqs
              refine one_ (i:=24) (N:=some 63) (zqb 40 33554431) rfl rfl (one_of HT_.out zqk) (by decide) (fun K hK=>?_);refine goes_ Try.func81 zqk rfl #[.slice (some a6) l0_0.length c0_0,.int .i64 a3,.int .i64 (Int.tmod a0 (l0_1.length:Int))] (by rfl) rfl rfl zq162 ?_;(with_reducible refine(spec_l1Meet.calls k1 _ _ l0_0 a3 (Int.tmod a0 (l0_1.length:Int)) b6 _ ?side1 ?side2 f6.out).mono ?_);(case side1=> exact zq54);(case side2=>exact b5.out);rintro e w' ⟨rfl,⟨nd,rfl⟩⟩;refine⟨_,rfl,?_⟩;refine hK.out _ _ ⟨(blk_cell a1.out 0).trans rfl,(blk_cell a1.out 1).trans rfl,((HB.out.cell (World.block_lt_of_cell? w _ hw804_0)).trans hw804_0),((HB.out.cell (World.block_lt_of_cell? w _ hw805_0)).trans hw805_0)⟩ (fun hHeld=>?_);clear hK K;refine norm_ (a':=?_) ?_ ?_;rotate_left
              ·show Act.put _ (some 63) _=_;exact zqs
              refine pure_ (i:=25) (N:=some 64) (v:=?_) (a':=?_) (zqb 40 67108863) rfl rfl (any_of HT_.out zqk) (fun _ _ _ h=>h) (Or.inl ⟨by rfl,?_⟩) ?_ ?_;rotate_left
              ·exact zqt
              rotate_left
              ·exact zqs
              refine pure_ (i:=26) (N:=some 65) (v:=?_) (a':=?_) (zqb 40 134217727) rfl rfl (any_of HT_.out zqk) (fun _ _ _ h=>h) (Or.inl ⟨by rfl,?_⟩) ?_ ?_;rotate_left
              ·exact zqt
              rotate_left
              ·exact zqs
              refine pure_ (i:=27) (N:=some 66) (v:=?_) (a':=?_) (zqb 40 268435455) rfl rfl (any_of HT_.out zqk) (fun _ _ _ h=>h) (Or.inl ⟨by rfl,?_⟩) ?_ ?_;rotate_left
              ·exact zqt
              rotate_left
              ·exact zqs
              refine pure_ (i:=28) (N:=some 67) (v:=?_) (a':=?_) (zqb 40 536870911) rfl rfl (any_of HT_.out zqk) (fun _ _ _ h=>h) (Or.inl ⟨by rfl,?_⟩) ?_ ?_;rotate_left
              ·exact zqt
              rotate_left
              ·exact zqs
              refine pure_ (i:=30) (N:=some 69) (v:=?_) (a':=?_) (zqb 40 1610612735) rfl rfl (any_of HT_.out zqk) (fun _ _ _ h=>h) (Or.inl ⟨by rfl,?_⟩) ?_ ?_;rotate_left
              ·exact zqt
              rotate_left
              ·exact zqs
              refine pure_ (i:=31) (N:=some 70) (v:=?_) (a':=?_) (zqb 40 3758096383) rfl rfl (any_of HT_.out zqk) (fun _ _ _ h=>h) (Or.inl ⟨by rfl,?_⟩) ?_ ?_;rotate_left
              ·exact zqt
              rotate_left
              ·exact zqs
              refine pure_ (i:=33) (N:=some 72) (v:=?_) (a':=?_) (zqb 40 12348030975) rfl rfl (any_of HT_.out zqk) (fun _ _ _ h=>h) (Or.inl ⟨by rfl,?_⟩) ?_ ?_;rotate_left
              ·exact zqt
              rotate_left
              ·exact zqs
              refine pure_ (i:=35) (N:=some 74) (v:=?_) (a':=?_) (zqb 40 46707769343) rfl rfl (any_of HT_.out zqk) (fun _ _ _ h=>h) (Or.inl ⟨by rfl,?_⟩) ?_ ?_;rotate_left
              ·exact zqt
              rotate_left
              ·exact zqs
              refine pure_ (i:=36) (N:=some 75) (v:=?_) (a':=?_) (zqb 40 115427246079) rfl rfl (any_of HT_.out zqk) (fun _ _ _ h=>h) (Or.inl ⟨by rfl,?_⟩) ?_ ?_;rotate_left
              ·exact zqt
              rotate_left
              ·exact zqs
              refine take_ (i:=29) (N:=some 68) (v:=?_) (a':=?_) (zqb 40 115964116991) rfl rfl (take_ofW HT_.out HW_.out zqk) (fun _ _ _ h=>h) (Or.inl ⟨by rfl,?_⟩) hHeld ?_ ?_;rotate_left
              ·rintro w' ⟨s0,s1,s2,s3⟩;go_simp;with_reducible rfl
              rotate_left
              ·exact zqs
              refine take_ (i:=34) (N:=some 73) (v:=?_) (a':=?_) (zqb 40 133143986175) rfl rfl (take_ofW HT_.out HW_.out zqk) (fun _ _ _ h=>h) (Or.inl ⟨by rfl,?_⟩) hHeld ?_ ?_;rotate_left
              ·rintro w' ⟨s0,s1,s2,s3⟩;go_simp;with_reducible rfl
              rotate_left
              ·exact zqs
              refine one_ (i:=32) (N:=some 71) (zqb 40 137438953471) rfl rfl (one_of HT_.out zqk) (by decide) (fun K hK=>?_);refine goes_ Try.func82 zqk rfl #[.slice (some a6) l0_0.length c0_0,.int .i64 a2,.int .i64 (Int.tmod a0 (l0_1.length:Int))] (by rfl) rfl rfl zq163 ?_;(with_reducible refine(spec_l1Join.calls k1 _ _ l0_0 a2 (Int.tmod a0 (l0_1.length:Int)) b4 _ ?side1 ?side2 g7.out).mono ?_);(case side1=> exact zq54);(case side2=>exact b5.out);rintro e w' ⟨rfl,⟨nd,rfl⟩⟩;refine⟨_,rfl,?_⟩;refine hK.out _ _ ⟨(blk_cell a1.out 0).trans rfl,(blk_cell a1.out 1).trans rfl,((HB.out.cell (World.block_lt_of_cell? w _ hw804_0)).trans hw804_0),((HB.out.cell (World.block_lt_of_cell? w _ hw805_0)).trans hw805_0)⟩ (fun hHeld=>?_);clear hK K;refine norm_ (a':=?_) ?_ ?_;rotate_left
              ·show Act.put _ (some 71) _=_;exact zqs
              refine one_ (i:=37) (N:=some 76) (zqb 40 274877906943) rfl rfl (one_of HT_.out zqk) (by decide) (fun K hK=>?_);refine goes_ Try.func82 zqk rfl #[.slice (some a6) l0_0.length c0_0,.int .i64 a3,.int .i64 (Int.tmod a0 (l0_1.length:Int))] (by rfl) rfl rfl zq162 ?_;(with_reducible refine(spec_l1Join.calls k1 _ _ l0_0 a3 (Int.tmod a0 (l0_1.length:Int)) b3 _ ?side1 ?side2 g8.out).mono ?_);(case side1=> exact zq54);(case side2=>exact b5.out);rintro e w' ⟨rfl,⟨nd,rfl⟩⟩;refine⟨_,rfl,?_⟩;refine hK.out _ _ ⟨(blk_cell a1.out 0).trans rfl,(blk_cell a1.out 1).trans rfl,((HB.out.cell (World.block_lt_of_cell? w _ hw804_0)).trans hw804_0),((HB.out.cell (World.block_lt_of_cell? w _ hw805_0)).trans hw805_0)⟩ (fun hHeld=>?_);clear hK K;refine norm_ (a':=?_) ?_ ?_;rotate_left
              ·show Act.put _ (some 76) _=_;exact zqs
              refine pure_ (i:=38) (N:=some 77) (v:=?_) (a':=?_) (zqb 40 549755813887) rfl rfl (any_of HT_.out zqk) (fun _ _ _ h=>h) (Or.inl ⟨by rfl,?_⟩) ?_ ?_;rotate_left
              ·exact zqt
              rotate_left
              ·exact zqs
              refine pure_ (i:=39) (N:=some 78) (v:=?_) (a':=?_) (zqb 40 1099511627775) rfl rfl (any_of HT_.out zqk) (fun _ _ _ h=>h) (Or.inl ⟨by rfl,?_⟩) ?_ ?_;rotate_left
              ·exact zqt
              rotate_left
              ·exact zqs
              refine done_ (done_of HT_.out zqk) ?_;(try go_wp2);refine bodyPost_ret (results_list (rs:= [.tmp 2,.tmp 3,.tmp 4,.tmp 5]) rfl (by simp) (.tmp (.tmp (.tmp (.tmp .nil))))) rfl ?_;exact⟨by first|rfl|(simp [errW_none,errW_some] <;> rfl)|(simp only [← c1,← c6];first|rfl|(simp [errW_none,errW_some] <;> rfl))|(simp [*,errW_none,errW_some] <;> rfl),zq9⟩
             ·rw [if_neg d9] at H;have g4:(b4==b3)=false:=beq_eq_false_iff_ne.mpr d9;have g5:(b4 !=b3)=true:=bne_iff_ne.mpr d9;have H':=zqm H;clear H;(try go_wp2);replace a1:=zqm (blk_drew a1.out);replace HB:=zqm (below_drew1 HB.out);have b7:0≤((a2):Int):=zqo;have b8:(a2)<(l0_0.length:Int):=zqo;obtain⟨a6,e0,d0,d1,a4,b0,b1⟩:=at_L3 a9.out (a2) b7 b8;have hw804_0:=a4
              cases d1
              replace a4:=(HB.out.cell (World.block_lt_of_cell? w _ a4)).trans a4;have b2:=zqm b1;have d3:=zqm b0;clear b1 b0;replace b7:=eq_true b7;replace b8:=eq_true b8;have b9:0≤((a3):Int):=zqo;have c0:(a3)<((rd_L3 l0_0 (a2)).length:Int):=zqo;obtain⟨c5,d2,a5⟩:=Kd.at_int b2.out (a3) b9 c0;have hw805_0:=a5
              cases d2
              replace a5:=(HB.out.cell (World.block_lt_of_cell? w _ a5)).trans a5;replace b9:=eq_true b9;replace c0:=eq_true c0;refine start_ (n:=40) (S:=fun w'=>w'.cell? ⟨a7,0,none⟩=some (.slice (some a6) l0_0.length c0_0)∧w'.cell? ⟨a7,1,none⟩=some (.slice A0_1 l0_1.length c0_1)∧w'.cell? (a6.add ((a2)).toNat)=some (.slice (some c5) (rd_L3 l0_0 (a2)).length d0)∧w'.cell? (c5.add ((a3)).toNat)=some (.int .i64 (rd (rd_L3 l0_0 (a2)) (a3)))) (ds:= []) (zqb 40 0) zqk rfl rfl ⟨(blk_cell a1.out 0).trans rfl,(blk_cell a1.out 1).trans rfl,((HB.out.cell (World.block_lt_of_cell? w _ hw804_0)).trans hw804_0),((HB.out.cell (World.block_lt_of_cell? w _ hw805_0)).trans hw805_0)⟩ (fun hHeld=>?_);refine with_tabW spec_PentagonOf.tab10 spec_PentagonOf.bits10 (fun HT_ HW_=>?_);generalize wr.drew=i5 at a1 HB b2 a4 a5 hHeld ⊢;refine pure_ (i:=0) (N:=some 39) (v:=?_) (a':=?_) (zqb 40 1) rfl rfl (any_of HT_.out zqk) (fun _ _ _ h=>h) (Or.inl ⟨by rfl,?_⟩) ?_ ?_;rotate_left
              ·exact zqt
              rotate_left
              ·exact zqs
              refine pure_ (i:=1) (N:=some 40) (v:=?_) (a':=?_) (zqb 40 3) rfl rfl (any_of HT_.out zqk) (fun _ _ _ h=>h) (Or.inl ⟨by rfl,?_⟩) ?_ ?_;rotate_left
              ·exact zqt
              rotate_left
              ·exact zqs
              refine pure_ (i:=2) (N:=some 41) (v:=?_) (a':=?_) (zqb 40 7) rfl rfl (any_of HT_.out zqk) (fun _ _ _ h=>h) (Or.inl ⟨by rfl,?_⟩) ?_ ?_;rotate_left
              ·exact zqt
              rotate_left
              ·exact zqs
              refine pure_ (i:=3) (N:=some 42) (v:=?_) (a':=?_) (zqb 40 15) rfl rfl (any_of HT_.out zqk) (fun _ _ _ h=>h) (Or.inl ⟨by rfl,?_⟩) ?_ ?_;rotate_left
              ·exact zqt
              rotate_left
              ·exact zqs
              refine pure_ (i:=4) (N:=some 43) (v:=?_) (a':=?_) (zqb 40 31) rfl rfl (any_of HT_.out zqk) (fun _ _ _ h=>h) (Or.inl ⟨by rfl,?_⟩) ?_ ?_;rotate_left
              ·exact zqt
              rotate_left
              ·exact zqs
              refine pure_ (i:=6) (N:=some 45) (v:=?_) (a':=?_) (zqb 40 95) rfl rfl (any_of HT_.out zqk) (fun _ _ _ h=>h) (Or.inl ⟨by rfl,?_⟩) ?_ ?_;rotate_left
              ·exact zqt
              rotate_left
              ·exact zqs
              refine pure_ (i:=9) (N:=some 48) (v:=?_) (a':=?_) (zqb 40 607) rfl rfl (any_of HT_.out zqk) (fun _ _ _ h=>h) (Or.inl ⟨by rfl,?_⟩) ?_ ?_;rotate_left
              ·exact zqt
              rotate_left
              ·exact zqs
              refine take_ (i:=5) (N:=some 44) (v:=?_) (a':=?_) (zqb 40 639) rfl rfl (take_ofW HT_.out HW_.out zqk) (fun _ _ _ h=>h) (Or.inl ⟨by rfl,?_⟩) hHeld ?_ ?_;rotate_left
              ·rintro w' ⟨s0,s1,s2,s3⟩;go_simp;with_reducible rfl
              rotate_left
              ·exact zqs
              refine pure_ (i:=7) (N:=some 46) (v:=?_) (a':=?_) (zqb 40 767) rfl rfl (any_of HT_.out zqk) (fun _ _ _ h=>h) (Or.inl ⟨by rfl,?_⟩) ?_ ?_;rotate_left
              ·exact zqt
              rotate_left
              ·exact zqs
              refine take_ (i:=8) (N:=some 47) (v:=?_) (a':=?_) (zqb 40 1023) rfl rfl (take_ofW HT_.out HW_.out zqk) (fun _ _ _ h=>h) (Or.inl ⟨by rfl,?_⟩) hHeld ?_ ?_;rotate_left
              ·rintro w' ⟨s0,s1,s2,s3⟩;go_simp;with_reducible rfl
              rotate_left
              ·exact zqs
              refine pure_ (i:=10) (N:=some 49) (v:=?_) (a':=?_) (zqb 40 2047) rfl rfl (any_of HT_.out zqk) (fun _ _ _ h=>h) (Or.inl ⟨by rfl,?_⟩) ?_ ?_;rotate_left
              ·exact zqt
              rotate_left
              ·exact zqs
              refine take_ (i:=11) (N:=some 50) (v:=?_) (a':=?_) (zqb 40 4095) rfl rfl (take_ofW HT_.out HW_.out zqk) (fun _ _ _ h=>h) (Or.inl ⟨by rfl,?_⟩) hHeld ?_ ?_;rotate_left
              ·rintro w' ⟨s0,s1,s2,s3⟩;go_simp;with_reducible rfl
              rotate_left
              ·exact zqs
              refine pure_ (i:=12) (N:=some 51) (v:=?_) (a':=?_) (zqb 40 8191) rfl rfl (any_of HT_.out zqk) (fun _ _ _ h=>h) (Or.inl ⟨by rfl,?_⟩) ?_ ?_;rotate_left
              ·exact zqt
              rotate_left
              ·exact zqs
              refine pure_ (i:=13) (N:=some 52) (v:=?_) (a':=?_) (zqb 40 16383) rfl rfl (any_of HT_.out zqk) (fun _ _ _ h=>h) (Or.inl ⟨by rfl,?_⟩) ?_ ?_;rotate_left
              ·exact zqt
              rotate_left
              ·exact zqs
              refine pure_ (i:=14) (N:=some 53) (v:=?_) (a':=?_) (zqb 40 32767) rfl rfl (any_of HT_.out zqk) (fun _ _ _ h=>h) (Or.inl ⟨by rfl,?_⟩) ?_ ?_;rotate_left
              ·exact zqt
              rotate_left
              ·exact zqs
              refine pure_ (i:=15) (N:=some 54) (v:=?_) (a':=?_) (zqb 40 65535) rfl rfl (any_of HT_.out zqk) (fun _ _ _ h=>h) (Or.inl ⟨by rfl,?_⟩) ?_ ?_;rotate_left
              ·exact zqt
              rotate_left
              ·exact zqs
              refine pure_ (i:=17) (N:=some 56) (v:=?_) (a':=?_) (zqb 40 196607) rfl rfl (any_of HT_.out zqk) (fun _ _ _ h=>h) (Or.inl ⟨by rfl,?_⟩) ?_ ?_;rotate_left
              ·exact zqt
              rotate_left
              ·exact zqs
              refine pure_ (i:=18) (N:=some 57) (v:=?_) (a':=?_) (zqb 40 458751) rfl rfl (any_of HT_.out zqk) (fun _ _ _ h=>h) (Or.inl ⟨by rfl,?_⟩) ?_ ?_;rotate_left
              ·exact zqt
              rotate_left
              ·exact zqs
              refine pure_ (i:=20) (N:=some 59) (v:=?_) (a':=?_) (zqb 40 1507327) rfl rfl (any_of HT_.out zqk) (fun _ _ _ h=>h) (Or.inl ⟨by rfl,?_⟩) ?_ ?_;rotate_left
              ·exact zqt
              rotate_left
              ·exact zqs
              refine pure_ (i:=22) (N:=some 61) (v:=?_) (a':=?_) (zqb 40 5701631) rfl rfl (any_of HT_.out zqk) (fun _ _ _ h=>h) (Or.inl ⟨by rfl,?_⟩) ?_ ?_;rotate_left
              ·exact zqt
              rotate_left
              ·exact zqs
              refine pure_ (i:=23) (N:=some 62) (v:=?_) (a':=?_) (zqb 40 14090239) rfl rfl (any_of HT_.out zqk) (fun _ _ _ h=>h) (Or.inl ⟨by rfl,?_⟩) ?_ ?_;rotate_left
              ·exact zqt
              rotate_left
              ·exact zqs
              refine take_ (i:=16) (N:=some 55) (v:=?_) (a':=?_) (zqb 40 14155775) rfl rfl (take_ofW HT_.out HW_.out zqk) (fun _ _ _ h=>h) (Or.inl ⟨by rfl,?_⟩) hHeld ?_ ?_;rotate_left
              ·rintro w' ⟨s0,s1,s2,s3⟩;go_simp;with_reducible rfl
              rotate_left
              ·exact zqs
              refine take_ (i:=21) (N:=some 60) (v:=?_) (a':=?_) (zqb 40 16252927) rfl rfl (take_ofW HT_.out HW_.out zqk) (fun _ _ _ h=>h) (Or.inl ⟨by rfl,?_⟩) hHeld ?_ ?_;rotate_left
              ·rintro w' ⟨s0,s1,s2,s3⟩;go_simp;with_reducible rfl
              rotate_left
              ·exact zqs
              refine one_ (i:=19) (N:=some 58) (zqb 40 16777215) rfl rfl (one_of HT_.out zqk) (by decide) (fun K hK=>?_);refine goes_ Try.func81 zqk rfl #[.slice (some a6) l0_0.length c0_0,.int .i64 a2,.int .i64 (Int.tmod a0 (l0_1.length:Int))] (by rfl) rfl rfl zq163 ?_;(with_reducible refine(spec_l1Meet.calls k1 _ _ l0_0 a2 (Int.tmod a0 (l0_1.length:Int)) c2 _ ?side1 ?side2 f4.out).mono ?_);(case side1=> exact zq57);(case side2=>exact b5.out);rintro e w' ⟨rfl,⟨nd,rfl⟩⟩;refine⟨_,rfl,?_⟩;refine hK.out _ _ ⟨(blk_cell a1.out 0).trans rfl,(blk_cell a1.out 1).trans rfl,((HB.out.cell (World.block_lt_of_cell? w _ hw804_0)).trans hw804_0),((HB.out.cell (World.block_lt_of_cell? w _ hw805_0)).trans hw805_0)⟩ (fun hHeld=>?_);clear hK K;refine norm_ (a':=?_) ?_ ?_;rotate_left
              ·show Act.put _ (some 58) _=_;exact zqs
              refine one_ (i:=24) (N:=some 63) (zqb 40 33554431) rfl rfl (one_of HT_.out zqk) (by decide) (fun K hK=>?_);refine goes_ Try.func81 zqk rfl #[.slice (some a6) l0_0.length c0_0,.int .i64 a3,.int .i64 (Int.tmod a0 (l0_1.length:Int))] (by rfl) rfl rfl zq162 ?_;(with_reducible refine(spec_l1Meet.calls k1 _ _ l0_0 a3 (Int.tmod a0 (l0_1.length:Int)) b6 _ ?side1 ?side2 f6.out).mono ?_);(case side1=> exact zq54);(case side2=>exact b5.out);rintro e w' ⟨rfl,⟨nd,rfl⟩⟩;refine⟨_,rfl,?_⟩;refine hK.out _ _ ⟨(blk_cell a1.out 0).trans rfl,(blk_cell a1.out 1).trans rfl,((HB.out.cell (World.block_lt_of_cell? w _ hw804_0)).trans hw804_0),((HB.out.cell (World.block_lt_of_cell? w _ hw805_0)).trans hw805_0)⟩ (fun hHeld=>?_);clear hK K;refine norm_ (a':=?_) ?_ ?_;rotate_left
              ·show Act.put _ (some 63) _=_;exact zqs
              refine pure_ (i:=25) (N:=some 64) (v:=?_) (a':=?_) (zqb 40 67108863) rfl rfl (any_of HT_.out zqk) (fun _ _ _ h=>h) (Or.inl ⟨by rfl,?_⟩) ?_ ?_;rotate_left
              ·exact zqt
              rotate_left
              ·exact zqs
              refine pure_ (i:=26) (N:=some 65) (v:=?_) (a':=?_) (zqb 40 134217727) rfl rfl (any_of HT_.out zqk) (fun _ _ _ h=>h) (Or.inl ⟨by rfl,?_⟩) ?_ ?_;rotate_left
              ·exact zqt
              rotate_left
              ·exact zqs
              refine pure_ (i:=27) (N:=some 66) (v:=?_) (a':=?_) (zqb 40 268435455) rfl rfl (any_of HT_.out zqk) (fun _ _ _ h=>h) (Or.inl ⟨by rfl,?_⟩) ?_ ?_;rotate_left
              ·exact zqt
              rotate_left
              ·exact zqs
              refine pure_ (i:=28) (N:=some 67) (v:=?_) (a':=?_) (zqb 40 536870911) rfl rfl (any_of HT_.out zqk) (fun _ _ _ h=>h) (Or.inl ⟨by rfl,?_⟩) ?_ ?_;rotate_left
              ·exact zqt
              rotate_left
              ·exact zqs
              refine pure_ (i:=30) (N:=some 69) (v:=?_) (a':=?_) (zqb 40 1610612735) rfl rfl (any_of HT_.out zqk) (fun _ _ _ h=>h) (Or.inl ⟨by rfl,?_⟩) ?_ ?_;rotate_left
              ·exact zqt
              rotate_left
              ·exact zqs
              refine pure_ (i:=31) (N:=some 70) (v:=?_) (a':=?_) (zqb 40 3758096383) rfl rfl (any_of HT_.out zqk) (fun _ _ _ h=>h) (Or.inl ⟨by rfl,?_⟩) ?_ ?_;rotate_left
              ·exact zqt
              rotate_left
              ·exact zqs
              refine pure_ (i:=33) (N:=some 72) (v:=?_) (a':=?_) (zqb 40 12348030975) rfl rfl (any_of HT_.out zqk) (fun _ _ _ h=>h) (Or.inl ⟨by rfl,?_⟩) ?_ ?_;rotate_left
              ·exact zqt
              rotate_left
              ·exact zqs
              refine pure_ (i:=35) (N:=some 74) (v:=?_) (a':=?_) (zqb 40 46707769343) rfl rfl (any_of HT_.out zqk) (fun _ _ _ h=>h) (Or.inl ⟨by rfl,?_⟩) ?_ ?_;rotate_left
              ·exact zqt
              rotate_left
              ·exact zqs
              refine pure_ (i:=36) (N:=some 75) (v:=?_) (a':=?_) (zqb 40 115427246079) rfl rfl (any_of HT_.out zqk) (fun _ _ _ h=>h) (Or.inl ⟨by rfl,?_⟩) ?_ ?_;rotate_left
              ·exact zqt
              rotate_left
              ·exact zqs
              refine take_ (i:=29) (N:=some 68) (v:=?_) (a':=?_) (zqb 40 115964116991) rfl rfl (take_ofW HT_.out HW_.out zqk) (fun _ _ _ h=>h) (Or.inl ⟨by rfl,?_⟩) hHeld ?_ ?_;rotate_left
              ·rintro w' ⟨s0,s1,s2,s3⟩;go_simp;with_reducible rfl
              rotate_left
              ·exact zqs
              refine take_ (i:=34) (N:=some 73) (v:=?_) (a':=?_) (zqb 40 133143986175) rfl rfl (take_ofW HT_.out HW_.out zqk) (fun _ _ _ h=>h) (Or.inl ⟨by rfl,?_⟩) hHeld ?_ ?_;rotate_left
              ·rintro w' ⟨s0,s1,s2,s3⟩;go_simp;with_reducible rfl
              rotate_left
              ·exact zqs
              refine one_ (i:=32) (N:=some 71) (zqb 40 137438953471) rfl rfl (one_of HT_.out zqk) (by decide) (fun K hK=>?_);refine goes_ Try.func82 zqk rfl #[.slice (some a6) l0_0.length c0_0,.int .i64 a2,.int .i64 (Int.tmod a0 (l0_1.length:Int))] (by rfl) rfl rfl zq163 ?_;(with_reducible refine(spec_l1Join.calls k1 _ _ l0_0 a2 (Int.tmod a0 (l0_1.length:Int)) b4 _ ?side1 ?side2 g7.out).mono ?_);(case side1=> exact zq54);(case side2=>exact b5.out);rintro e w' ⟨rfl,⟨nd,rfl⟩⟩;refine⟨_,rfl,?_⟩;refine hK.out _ _ ⟨(blk_cell a1.out 0).trans rfl,(blk_cell a1.out 1).trans rfl,((HB.out.cell (World.block_lt_of_cell? w _ hw804_0)).trans hw804_0),((HB.out.cell (World.block_lt_of_cell? w _ hw805_0)).trans hw805_0)⟩ (fun hHeld=>?_);clear hK K;refine norm_ (a':=?_) ?_ ?_;rotate_left
              ·show Act.put _ (some 71) _=_;exact zqs
              refine one_ (i:=37) (N:=some 76) (zqb 40 274877906943) rfl rfl (one_of HT_.out zqk) (by decide) (fun K hK=>?_);refine goes_ Try.func82 zqk rfl #[.slice (some a6) l0_0.length c0_0,.int .i64 a3,.int .i64 (Int.tmod a0 (l0_1.length:Int))] (by rfl) rfl rfl zq162 ?_;(with_reducible refine(spec_l1Join.calls k1 _ _ l0_0 a3 (Int.tmod a0 (l0_1.length:Int)) b3 _ ?side1 ?side2 g8.out).mono ?_);(case side1=> exact zq54);(case side2=>exact b5.out);rintro e w' ⟨rfl,⟨nd,rfl⟩⟩;refine⟨_,rfl,?_⟩;refine hK.out _ _ ⟨(blk_cell a1.out 0).trans rfl,(blk_cell a1.out 1).trans rfl,((HB.out.cell (World.block_lt_of_cell? w _ hw804_0)).trans hw804_0),((HB.out.cell (World.block_lt_of_cell? w _ hw805_0)).trans hw805_0)⟩ (fun hHeld=>?_);clear hK K;refine norm_ (a':=?_) ?_ ?_;rotate_left
              ·show Act.put _ (some 76) _=_;exact zqs
              refine pure_ (i:=38) (N:=some 77) (v:=?_) (a':=?_) (zqb 40 549755813887) rfl rfl (any_of HT_.out zqk) (fun _ _ _ h=>h) (Or.inl ⟨by rfl,?_⟩) ?_ ?_;rotate_left
              ·exact zqt
              rotate_left
              ·exact zqs
              refine pure_ (i:=39) (N:=some 78) (v:=?_) (a':=?_) (zqb 40 1099511627775) rfl rfl (any_of HT_.out zqk) (fun _ _ _ h=>h) (Or.inl ⟨by rfl,?_⟩) ?_ ?_;rotate_left
              ·exact zqt
              rotate_left
              ·exact zqs
              refine done_ (done_of HT_.out zqk) ?_;try go_wp2
              go_roundg k1
              (case measure=>have:=d4.out;omega);case rel=>exact⟨(wrap64 (a0+1)),(by first|rfl|(simp;done)|(simp [*];done)),H',⟨by have:=d4.out;omega⟩,⟨zq16⟩,⟨zq9⟩⟩
            ·rw [if_neg d8] at H;have g2:(c2==b6)=false:=beq_eq_false_iff_ne.mpr d8;have g3:(c2 !=b6)=true:=bne_iff_ne.mpr d8;have H':=zqm H;clear H;(try go_wp2);replace a1:=zqm (blk_drew a1.out);replace HB:=zqm (below_drew1 HB.out);have b7:0≤((a2):Int):=zqo;have b8:(a2)<(l0_0.length:Int):=zqo;obtain⟨a6,e0,d0,d1,a4,b0,b1⟩:=at_L3 a9.out (a2) b7 b8;have hw804_0:=a4
             cases d1
             replace a4:=(HB.out.cell (World.block_lt_of_cell? w _ a4)).trans a4;have b2:=zqm b1;have d3:=zqm b0;clear b1 b0;replace b7:=eq_true b7;replace b8:=eq_true b8;have b9:0≤((a3):Int):=zqo;have c0:(a3)<((rd_L3 l0_0 (a2)).length:Int):=zqo;obtain⟨c5,d2,a5⟩:=Kd.at_int b2.out (a3) b9 c0;have hw805_0:=a5
             cases d2
             replace a5:=(HB.out.cell (World.block_lt_of_cell? w _ a5)).trans a5;replace b9:=eq_true b9;replace c0:=eq_true c0;refine start_ (n:=40) (S:=fun w'=>w'.cell? ⟨a7,0,none⟩=some (.slice (some a6) l0_0.length c0_0)∧w'.cell? ⟨a7,1,none⟩=some (.slice A0_1 l0_1.length c0_1)∧w'.cell? (a6.add ((a2)).toNat)=some (.slice (some c5) (rd_L3 l0_0 (a2)).length d0)∧w'.cell? (c5.add ((a3)).toNat)=some (.int .i64 (rd (rd_L3 l0_0 (a2)) (a3)))) (ds:= []) (zqb 40 0) zqk rfl rfl ⟨(blk_cell a1.out 0).trans rfl,(blk_cell a1.out 1).trans rfl,((HB.out.cell (World.block_lt_of_cell? w _ hw804_0)).trans hw804_0),((HB.out.cell (World.block_lt_of_cell? w _ hw805_0)).trans hw805_0)⟩ (fun hHeld=>?_);refine with_tabW spec_PentagonOf.tab10 spec_PentagonOf.bits10 (fun HT_ HW_=>?_);generalize wr.drew=i6 at a1 HB b2 a4 a5 hHeld ⊢;refine pure_ (i:=0) (N:=some 39) (v:=?_) (a':=?_) (zqb 40 1) rfl rfl (any_of HT_.out zqk) (fun _ _ _ h=>h) (Or.inl ⟨by rfl,?_⟩) ?_ ?_;rotate_left
             ·exact zqt
             rotate_left
             ·exact zqs
             refine pure_ (i:=1) (N:=some 40) (v:=?_) (a':=?_) (zqb 40 3) rfl rfl (any_of HT_.out zqk) (fun _ _ _ h=>h) (Or.inl ⟨by rfl,?_⟩) ?_ ?_;rotate_left
             ·exact zqt
             rotate_left
             ·exact zqs
             refine pure_ (i:=2) (N:=some 41) (v:=?_) (a':=?_) (zqb 40 7) rfl rfl (any_of HT_.out zqk) (fun _ _ _ h=>h) (Or.inl ⟨by rfl,?_⟩) ?_ ?_;rotate_left
             ·exact zqt
             rotate_left
             ·exact zqs
             refine pure_ (i:=3) (N:=some 42) (v:=?_) (a':=?_) (zqb 40 15) rfl rfl (any_of HT_.out zqk) (fun _ _ _ h=>h) (Or.inl ⟨by rfl,?_⟩) ?_ ?_;rotate_left
             ·exact zqt
             rotate_left
             ·exact zqs
             refine pure_ (i:=4) (N:=some 43) (v:=?_) (a':=?_) (zqb 40 31) rfl rfl (any_of HT_.out zqk) (fun _ _ _ h=>h) (Or.inl ⟨by rfl,?_⟩) ?_ ?_;rotate_left
             ·exact zqt
             rotate_left
             ·exact zqs
             refine pure_ (i:=6) (N:=some 45) (v:=?_) (a':=?_) (zqb 40 95) rfl rfl (any_of HT_.out zqk) (fun _ _ _ h=>h) (Or.inl ⟨by rfl,?_⟩) ?_ ?_;rotate_left
             ·exact zqt
             rotate_left
             ·exact zqs
             refine pure_ (i:=9) (N:=some 48) (v:=?_) (a':=?_) (zqb 40 607) rfl rfl (any_of HT_.out zqk) (fun _ _ _ h=>h) (Or.inl ⟨by rfl,?_⟩) ?_ ?_;rotate_left
             ·exact zqt
             rotate_left
             ·exact zqs
             refine take_ (i:=5) (N:=some 44) (v:=?_) (a':=?_) (zqb 40 639) rfl rfl (take_ofW HT_.out HW_.out zqk) (fun _ _ _ h=>h) (Or.inl ⟨by rfl,?_⟩) hHeld ?_ ?_;rotate_left
             ·rintro w' ⟨s0,s1,s2,s3⟩;go_simp;with_reducible rfl
             rotate_left
             ·exact zqs
             refine pure_ (i:=7) (N:=some 46) (v:=?_) (a':=?_) (zqb 40 767) rfl rfl (any_of HT_.out zqk) (fun _ _ _ h=>h) (Or.inl ⟨by rfl,?_⟩) ?_ ?_;rotate_left
             ·exact zqt
             rotate_left
             ·exact zqs
             refine take_ (i:=8) (N:=some 47) (v:=?_) (a':=?_) (zqb 40 1023) rfl rfl (take_ofW HT_.out HW_.out zqk) (fun _ _ _ h=>h) (Or.inl ⟨by rfl,?_⟩) hHeld ?_ ?_;rotate_left
             ·rintro w' ⟨s0,s1,s2,s3⟩;go_simp;with_reducible rfl
             rotate_left
             ·exact zqs
             refine pure_ (i:=10) (N:=some 49) (v:=?_) (a':=?_) (zqb 40 2047) rfl rfl (any_of HT_.out zqk) (fun _ _ _ h=>h) (Or.inl ⟨by rfl,?_⟩) ?_ ?_;rotate_left
             ·exact zqt
             rotate_left
             ·exact zqs
             refine take_ (i:=11) (N:=some 50) (v:=?_) (a':=?_) (zqb 40 4095) rfl rfl (take_ofW HT_.out HW_.out zqk) (fun _ _ _ h=>h) (Or.inl ⟨by rfl,?_⟩) hHeld ?_ ?_;rotate_left
             ·rintro w' ⟨s0,s1,s2,s3⟩;go_simp;with_reducible rfl
             rotate_left
             ·exact zqs
             refine pure_ (i:=12) (N:=some 51) (v:=?_) (a':=?_) (zqb 40 8191) rfl rfl (any_of HT_.out zqk) (fun _ _ _ h=>h) (Or.inl ⟨by rfl,?_⟩) ?_ ?_;rotate_left
             ·exact zqt
             rotate_left
             ·exact zqs
             refine pure_ (i:=13) (N:=some 52) (v:=?_) (a':=?_) (zqb 40 16383) rfl rfl (any_of HT_.out zqk) (fun _ _ _ h=>h) (Or.inl ⟨by rfl,?_⟩) ?_ ?_;rotate_left
             ·exact zqt
             rotate_left
             ·exact zqs
             refine pure_ (i:=14) (N:=some 53) (v:=?_) (a':=?_) (zqb 40 32767) rfl rfl (any_of HT_.out zqk) (fun _ _ _ h=>h) (Or.inl ⟨by rfl,?_⟩) ?_ ?_;rotate_left
             ·exact zqt
             rotate_left
             ·exact zqs
             refine pure_ (i:=15) (N:=some 54) (v:=?_) (a':=?_) (zqb 40 65535) rfl rfl (any_of HT_.out zqk) (fun _ _ _ h=>h) (Or.inl ⟨by rfl,?_⟩) ?_ ?_;rotate_left
             ·exact zqt
             rotate_left
             ·exact zqs
             refine pure_ (i:=17) (N:=some 56) (v:=?_) (a':=?_) (zqb 40 196607) rfl rfl (any_of HT_.out zqk) (fun _ _ _ h=>h) (Or.inl ⟨by rfl,?_⟩) ?_ ?_;rotate_left
             ·exact zqt
             rotate_left
             ·exact zqs
             refine pure_ (i:=18) (N:=some 57) (v:=?_) (a':=?_) (zqb 40 458751) rfl rfl (any_of HT_.out zqk) (fun _ _ _ h=>h) (Or.inl ⟨by rfl,?_⟩) ?_ ?_;rotate_left
             ·exact zqt
             rotate_left
             ·exact zqs
             refine pure_ (i:=20) (N:=some 59) (v:=?_) (a':=?_) (zqb 40 1507327) rfl rfl (any_of HT_.out zqk) (fun _ _ _ h=>h) (Or.inl ⟨by rfl,?_⟩) ?_ ?_;rotate_left
             ·exact zqt
             rotate_left
             ·exact zqs
             refine pure_ (i:=22) (N:=some 61) (v:=?_) (a':=?_) (zqb 40 5701631) rfl rfl (any_of HT_.out zqk) (fun _ _ _ h=>h) (Or.inl ⟨by rfl,?_⟩) ?_ ?_;rotate_left
             ·exact zqt
             rotate_left
             ·exact zqs
             refine pure_ (i:=23) (N:=some 62) (v:=?_) (a':=?_) (zqb 40 14090239) rfl rfl (any_of HT_.out zqk) (fun _ _ _ h=>h) (Or.inl ⟨by rfl,?_⟩) ?_ ?_;rotate_left
             ·exact zqt
             rotate_left
             ·exact zqs
             refine take_ (i:=16) (N:=some 55) (v:=?_) (a':=?_) (zqb 40 14155775) rfl rfl (take_ofW HT_.out HW_.out zqk) (fun _ _ _ h=>h) (Or.inl ⟨by rfl,?_⟩) hHeld ?_ ?_;rotate_left
             ·rintro w' ⟨s0,s1,s2,s3⟩;go_simp;with_reducible rfl
             rotate_left
             ·exact zqs
             refine take_ (i:=21) (N:=some 60) (v:=?_) (a':=?_) (zqb 40 16252927) rfl rfl (take_ofW HT_.out HW_.out zqk) (fun _ _ _ h=>h) (Or.inl ⟨by rfl,?_⟩) hHeld ?_ ?_;rotate_left
             ·rintro w' ⟨s0,s1,s2,s3⟩;go_simp;with_reducible rfl
             rotate_left
             ·exact zqs
             refine one_ (i:=19) (N:=some 58) (zqb 40 16777215) rfl rfl (one_of HT_.out zqk) (by decide) (fun K hK=>?_);refine goes_ Try.func81 zqk rfl #[.slice (some a6) l0_0.length c0_0,.int .i64 a2,.int .i64 (Int.tmod a0 (l0_1.length:Int))] (by rfl) rfl rfl zq163 ?_;(with_reducible refine(spec_l1Meet.calls k1 _ _ l0_0 a2 (Int.tmod a0 (l0_1.length:Int)) c2 _ ?side1 ?side2 f4.out).mono ?_);(case side1=> exact zq57);(case side2=>exact b5.out);rintro e w' ⟨rfl,⟨nd,rfl⟩⟩;refine⟨_,rfl,?_⟩;refine hK.out _ _ ⟨(blk_cell a1.out 0).trans rfl,(blk_cell a1.out 1).trans rfl,((HB.out.cell (World.block_lt_of_cell? w _ hw804_0)).trans hw804_0),((HB.out.cell (World.block_lt_of_cell? w _ hw805_0)).trans hw805_0)⟩ (fun hHeld=>?_);clear hK K;refine norm_ (a':=?_) ?_ ?_;rotate_left
             ·show Act.put _ (some 58) _=_;exact zqs
             refine one_ (i:=24) (N:=some 63) (zqb 40 33554431) rfl rfl (one_of HT_.out zqk) (by decide) (fun K hK=>?_);refine goes_ Try.func81 zqk rfl #[.slice (some a6) l0_0.length c0_0,.int .i64 a3,.int .i64 (Int.tmod a0 (l0_1.length:Int))] (by rfl) rfl rfl zq162 ?_;(with_reducible refine(spec_l1Meet.calls k1 _ _ l0_0 a3 (Int.tmod a0 (l0_1.length:Int)) b6 _ ?side1 ?side2 f6.out).mono ?_);(case side1=> exact zq54);(case side2=>exact b5.out);rintro e w' ⟨rfl,⟨nd,rfl⟩⟩;refine⟨_,rfl,?_⟩;refine hK.out _ _ ⟨(blk_cell a1.out 0).trans rfl,(blk_cell a1.out 1).trans rfl,((HB.out.cell (World.block_lt_of_cell? w _ hw804_0)).trans hw804_0),((HB.out.cell (World.block_lt_of_cell? w _ hw805_0)).trans hw805_0)⟩ (fun hHeld=>?_);clear hK K;refine norm_ (a':=?_) ?_ ?_;rotate_left
             ·show Act.put _ (some 63) _=_;exact zqs
             refine pure_ (i:=25) (N:=some 64) (v:=?_) (a':=?_) (zqb 40 67108863) rfl rfl (any_of HT_.out zqk) (fun _ _ _ h=>h) (Or.inl ⟨by rfl,?_⟩) ?_ ?_;rotate_left
             ·exact zqt
             rotate_left
             ·exact zqs
             refine pure_ (i:=26) (N:=some 65) (v:=?_) (a':=?_) (zqb 40 134217727) rfl rfl (any_of HT_.out zqk) (fun _ _ _ h=>h) (Or.inl ⟨by rfl,?_⟩) ?_ ?_;rotate_left
             ·exact zqt
             rotate_left
             ·exact zqs
             refine pure_ (i:=27) (N:=some 66) (v:=?_) (a':=?_) (zqb 40 268435455) rfl rfl (any_of HT_.out zqk) (fun _ _ _ h=>h) (Or.inl ⟨by rfl,?_⟩) ?_ ?_;rotate_left
             ·exact zqt
             rotate_left
             ·exact zqs
             refine pure_ (i:=28) (N:=some 67) (v:=undef) (a':=?_) (zqb 40 536870911) rfl rfl (any_of HT_.out zqk) (fun _ _ _ h=>h) (Or.inr ⟨by rfl,rfl⟩) ?_ ?_;rotate_left
             ·exact zqs
             refine pure_ (i:=29) (N:=some 68) (v:=undef) (a':=?_) (zqb 40 1073741823) rfl rfl (any_of HT_.out zqk) (fun _ _ _ h=>h) (Or.inr ⟨by rfl,rfl⟩) ?_ ?_;rotate_left
             ·exact zqs
             refine pure_ (i:=30) (N:=some 69) (v:=undef) (a':=?_) (zqb 40 2147483647) rfl rfl (any_of HT_.out zqk) (fun _ _ _ h=>h) (Or.inr ⟨by rfl,rfl⟩) ?_ ?_;rotate_left
             ·exact zqs
             refine pure_ (i:=31) (N:=some 70) (v:=undef) (a':=?_) (zqb 40 4294967295) rfl rfl (any_of HT_.out zqk) (fun _ _ _ h=>h) (Or.inr ⟨by rfl,rfl⟩) ?_ ?_;rotate_left
             ·exact zqs
             refine pure_ (i:=32) (N:=some 71) (v:=undef) (a':=?_) (zqb 40 8589934591) rfl rfl (any_of HT_.out zqk) (fun _ _ _ h=>h) (Or.inr ⟨by rfl,rfl⟩) ?_ ?_;rotate_left
             ·exact zqs
             refine pure_ (i:=33) (N:=some 72) (v:=undef) (a':=?_) (zqb 40 17179869183) rfl rfl (any_of HT_.out zqk) (fun _ _ _ h=>h) (Or.inr ⟨by rfl,rfl⟩) ?_ ?_;rotate_left
             ·exact zqs
             refine pure_ (i:=34) (N:=some 73) (v:=undef) (a':=?_) (zqb 40 34359738367) rfl rfl (any_of HT_.out zqk) (fun _ _ _ h=>h) (Or.inr ⟨by rfl,rfl⟩) ?_ ?_;rotate_left
             ·exact zqs
             refine pure_ (i:=35) (N:=some 74) (v:=undef) (a':=?_) (zqb 40 68719476735) rfl rfl (any_of HT_.out zqk) (fun _ _ _ h=>h) (Or.inr ⟨by rfl,rfl⟩) ?_ ?_;rotate_left
             ·exact zqs
             refine pure_ (i:=36) (N:=some 75) (v:=undef) (a':=?_) (zqb 40 137438953471) rfl rfl (any_of HT_.out zqk) (fun _ _ _ h=>h) (Or.inr ⟨by rfl,rfl⟩) ?_ ?_;rotate_left
             ·exact zqs
             refine pure_ (i:=37) (N:=some 76) (v:=undef) (a':=?_) (zqb 40 274877906943) rfl rfl (any_of HT_.out zqk) (fun _ _ _ h=>h) (Or.inr ⟨by rfl,rfl⟩) ?_ ?_;rotate_left
             ·exact zqs
             refine pure_ (i:=38) (N:=some 77) (v:=undef) (a':=?_) (zqb 40 549755813887) rfl rfl (any_of HT_.out zqk) (fun _ _ _ h=>h) (Or.inr ⟨by rfl,rfl⟩) ?_ ?_;rotate_left
             ·exact zqs
             refine pure_ (i:=39) (N:=some 78) (v:=?_) (a':=?_) (zqb 40 1099511627775) rfl rfl (any_of HT_.out zqk) (fun _ _ _ h=>h) (Or.inl ⟨by rfl,?_⟩) ?_ ?_;rotate_left
             ·exact zqt
             rotate_left
             ·exact zqs
             refine done_ (done_of HT_.out zqk) ?_;try go_wp2
             go_roundg k1
             (case measure=>have:=d4.out;omega);case rel=>exact⟨(wrap64 (a0+1)),(by first|rfl|(simp;done)|(simp [*];done)),H',⟨by have:=d4.out;omega⟩,⟨zq16⟩,⟨zq9⟩⟩
           ·rw [if_neg d7] at H;have g0:((rd (rd_L3 l0_0 (a2)) (a3))==1)=false:=beq_eq_false_iff_ne.mpr d7;have g1:((rd (rd_L3 l0_0 (a2)) (a3)) !=1)=true:=bne_iff_ne.mpr d7;have H':=zqm H;clear H;(try go_wp2);replace a1:=zqm (blk_drew a1.out);replace HB:=zqm (below_drew1 HB.out);have b7:0≤((a2):Int):=zqo;have b8:(a2)<(l0_0.length:Int):=zqo;obtain⟨a6,e0,d0,d1,a4,b0,b1⟩:=at_L3 a9.out (a2) b7 b8;have hw804_0:=a4
            cases d1
            replace a4:=(HB.out.cell (World.block_lt_of_cell? w _ a4)).trans a4;have b2:=zqm b1;have d3:=zqm b0;clear b1 b0;replace b7:=eq_true b7;replace b8:=eq_true b8;have b9:0≤((a3):Int):=zqo;have c0:(a3)<((rd_L3 l0_0 (a2)).length:Int):=zqo;obtain⟨c5,d2,a5⟩:=Kd.at_int b2.out (a3) b9 c0;have hw805_0:=a5
            cases d2
            replace a5:=(HB.out.cell (World.block_lt_of_cell? w _ a5)).trans a5;replace b9:=eq_true b9;replace c0:=eq_true c0;refine start_ (n:=40) (S:=fun w'=>w'.cell? ⟨a7,0,none⟩=some (.slice (some a6) l0_0.length c0_0)∧w'.cell? ⟨a7,1,none⟩=some (.slice A0_1 l0_1.length c0_1)∧w'.cell? (a6.add ((a2)).toNat)=some (.slice (some c5) (rd_L3 l0_0 (a2)).length d0)∧w'.cell? (c5.add ((a3)).toNat)=some (.int .i64 (rd (rd_L3 l0_0 (a2)) (a3)))) (ds:= []) (zqb 40 0) zqk rfl rfl ⟨(blk_cell a1.out 0).trans rfl,(blk_cell a1.out 1).trans rfl,((HB.out.cell (World.block_lt_of_cell? w _ hw804_0)).trans hw804_0),((HB.out.cell (World.block_lt_of_cell? w _ hw805_0)).trans hw805_0)⟩ (fun hHeld=>?_);refine with_tabW spec_PentagonOf.tab10 spec_PentagonOf.bits10 (fun HT_ HW_=>?_);generalize wr.drew=i7 at a1 HB b2 a4 a5 hHeld ⊢;refine pure_ (i:=0) (N:=some 39) (v:=?_) (a':=?_) (zqb 40 1) rfl rfl (any_of HT_.out zqk) (fun _ _ _ h=>h) (Or.inl ⟨by rfl,?_⟩) ?_ ?_;rotate_left
            ·exact zqt
            rotate_left
            ·exact zqs
            refine pure_ (i:=1) (N:=some 40) (v:=?_) (a':=?_) (zqb 40 3) rfl rfl (any_of HT_.out zqk) (fun _ _ _ h=>h) (Or.inl ⟨by rfl,?_⟩) ?_ ?_;rotate_left
            ·exact zqt
            rotate_left
            ·exact zqs
            refine pure_ (i:=2) (N:=some 41) (v:=?_) (a':=?_) (zqb 40 7) rfl rfl (any_of HT_.out zqk) (fun _ _ _ h=>h) (Or.inl ⟨by rfl,?_⟩) ?_ ?_;rotate_left
            ·exact zqt
            rotate_left
            ·exact zqs
            refine pure_ (i:=3) (N:=some 42) (v:=?_) (a':=?_) (zqb 40 15) rfl rfl (any_of HT_.out zqk) (fun _ _ _ h=>h) (Or.inl ⟨by rfl,?_⟩) ?_ ?_;rotate_left
            ·exact zqt
            rotate_left
            ·exact zqs
            refine pure_ (i:=4) (N:=some 43) (v:=?_) (a':=?_) (zqb 40 31) rfl rfl (any_of HT_.out zqk) (fun _ _ _ h=>h) (Or.inl ⟨by rfl,?_⟩) ?_ ?_;rotate_left
            ·exact zqt
            rotate_left
            ·exact zqs
            refine pure_ (i:=6) (N:=some 45) (v:=?_) (a':=?_) (zqb 40 95) rfl rfl (any_of HT_.out zqk) (fun _ _ _ h=>h) (Or.inl ⟨by rfl,?_⟩) ?_ ?_;rotate_left
            ·exact zqt
            rotate_left
            ·exact zqs
            refine pure_ (i:=9) (N:=some 48) (v:=?_) (a':=?_) (zqb 40 607) rfl rfl (any_of HT_.out zqk) (fun _ _ _ h=>h) (Or.inl ⟨by rfl,?_⟩) ?_ ?_;rotate_left
            ·exact zqt
            rotate_left
            ·exact zqs
            refine take_ (i:=5) (N:=some 44) (v:=?_) (a':=?_) (zqb 40 639) rfl rfl (take_ofW HT_.out HW_.out zqk) (fun _ _ _ h=>h) (Or.inl ⟨by rfl,?_⟩) hHeld ?_ ?_;rotate_left
            ·rintro w' ⟨s0,s1,s2,s3⟩;go_simp;with_reducible rfl
            rotate_left
            ·exact zqs
            refine pure_ (i:=7) (N:=some 46) (v:=?_) (a':=?_) (zqb 40 767) rfl rfl (any_of HT_.out zqk) (fun _ _ _ h=>h) (Or.inl ⟨by rfl,?_⟩) ?_ ?_;rotate_left
            ·exact zqt
            rotate_left
            ·exact zqs
            refine take_ (i:=8) (N:=some 47) (v:=?_) (a':=?_) (zqb 40 1023) rfl rfl (take_ofW HT_.out HW_.out zqk) (fun _ _ _ h=>h) (Or.inl ⟨by rfl,?_⟩) hHeld ?_ ?_;rotate_left
            ·rintro w' ⟨s0,s1,s2,s3⟩;go_simp;with_reducible rfl
            rotate_left
            ·exact zqs
            refine pure_ (i:=10) (N:=some 49) (v:=?_) (a':=?_) (zqb 40 2047) rfl rfl (any_of HT_.out zqk) (fun _ _ _ h=>h) (Or.inl ⟨by rfl,?_⟩) ?_ ?_;rotate_left
            ·exact zqt
            rotate_left
            ·exact zqs
            refine take_ (i:=11) (N:=some 50) (v:=?_) (a':=?_) (zqb 40 4095) rfl rfl (take_ofW HT_.out HW_.out zqk) (fun _ _ _ h=>h) (Or.inl ⟨by rfl,?_⟩) hHeld ?_ ?_;rotate_left
            ·rintro w' ⟨s0,s1,s2,s3⟩;go_simp;with_reducible rfl
            rotate_left
            ·exact zqs
            refine pure_ (i:=12) (N:=some 51) (v:=?_) (a':=?_) (zqb 40 8191) rfl rfl (any_of HT_.out zqk) (fun _ _ _ h=>h) (Or.inl ⟨by rfl,?_⟩) ?_ ?_;rotate_left
            ·exact zqt
            rotate_left
            ·exact zqs
            refine pure_ (i:=13) (N:=some 52) (v:=?_) (a':=?_) (zqb 40 16383) rfl rfl (any_of HT_.out zqk) (fun _ _ _ h=>h) (Or.inl ⟨by rfl,?_⟩) ?_ ?_;rotate_left
            ·exact zqt
            rotate_left
            ·exact zqs
            refine pure_ (i:=14) (N:=some 53) (v:=?_) (a':=?_) (zqb 40 32767) rfl rfl (any_of HT_.out zqk) (fun _ _ _ h=>h) (Or.inl ⟨by rfl,?_⟩) ?_ ?_;rotate_left
            ·exact zqt
            rotate_left
            ·exact zqs
            refine pure_ (i:=15) (N:=some 54) (v:=undef) (a':=?_) (zqb 40 65535) rfl rfl (any_of HT_.out zqk) (fun _ _ _ h=>h) (Or.inr ⟨by rfl,rfl⟩) ?_ ?_;rotate_left
            ·exact zqs
            refine pure_ (i:=16) (N:=some 55) (v:=undef) (a':=?_) (zqb 40 131071) rfl rfl (any_of HT_.out zqk) (fun _ _ _ h=>h) (Or.inr ⟨by rfl,rfl⟩) ?_ ?_;rotate_left
            ·exact zqs
            refine pure_ (i:=17) (N:=some 56) (v:=undef) (a':=?_) (zqb 40 262143) rfl rfl (any_of HT_.out zqk) (fun _ _ _ h=>h) (Or.inr ⟨by rfl,rfl⟩) ?_ ?_;rotate_left
            ·exact zqs
            refine pure_ (i:=18) (N:=some 57) (v:=undef) (a':=?_) (zqb 40 524287) rfl rfl (any_of HT_.out zqk) (fun _ _ _ h=>h) (Or.inr ⟨by rfl,rfl⟩) ?_ ?_;rotate_left
            ·exact zqs
            refine pure_ (i:=19) (N:=some 58) (v:=undef) (a':=?_) (zqb 40 1048575) rfl rfl (any_of HT_.out zqk) (fun _ _ _ h=>h) (Or.inr ⟨by rfl,rfl⟩) ?_ ?_;rotate_left
            ·exact zqs
            refine pure_ (i:=20) (N:=some 59) (v:=undef) (a':=?_) (zqb 40 2097151) rfl rfl (any_of HT_.out zqk) (fun _ _ _ h=>h) (Or.inr ⟨by rfl,rfl⟩) ?_ ?_;rotate_left
            ·exact zqs
            refine pure_ (i:=21) (N:=some 60) (v:=undef) (a':=?_) (zqb 40 4194303) rfl rfl (any_of HT_.out zqk) (fun _ _ _ h=>h) (Or.inr ⟨by rfl,rfl⟩) ?_ ?_;rotate_left
            ·exact zqs
            refine pure_ (i:=22) (N:=some 61) (v:=undef) (a':=?_) (zqb 40 8388607) rfl rfl (any_of HT_.out zqk) (fun _ _ _ h=>h) (Or.inr ⟨by rfl,rfl⟩) ?_ ?_;rotate_left
            ·exact zqs
            refine pure_ (i:=23) (N:=some 62) (v:=undef) (a':=?_) (zqb 40 16777215) rfl rfl (any_of HT_.out zqk) (fun _ _ _ h=>h) (Or.inr ⟨by rfl,rfl⟩) ?_ ?_;rotate_left
            ·exact zqs
            refine pure_ (i:=24) (N:=some 63) (v:=undef) (a':=?_) (zqb 40 33554431) rfl rfl (any_of HT_.out zqk) (fun _ _ _ h=>h) (Or.inr ⟨by rfl,rfl⟩) ?_ ?_;rotate_left
            ·exact zqs
            refine pure_ (i:=25) (N:=some 64) (v:=undef) (a':=?_) (zqb 40 67108863) rfl rfl (any_of HT_.out zqk) (fun _ _ _ h=>h) (Or.inr ⟨by rfl,rfl⟩) ?_ ?_;rotate_left
            ·exact zqs
            refine pure_ (i:=26) (N:=some 65) (v:=?_) (a':=?_) (zqb 40 134217727) rfl rfl (any_of HT_.out zqk) (fun _ _ _ h=>h) (Or.inl ⟨by rfl,?_⟩) ?_ ?_;rotate_left
            ·exact zqt
            rotate_left
            ·exact zqs
            refine pure_ (i:=27) (N:=some 66) (v:=?_) (a':=?_) (zqb 40 268435455) rfl rfl (any_of HT_.out zqk) (fun _ _ _ h=>h) (Or.inl ⟨by rfl,?_⟩) ?_ ?_;rotate_left
            ·exact zqt
            rotate_left
            ·exact zqs
            refine pure_ (i:=28) (N:=some 67) (v:=undef) (a':=?_) (zqb 40 536870911) rfl rfl (any_of HT_.out zqk) (fun _ _ _ h=>h) (Or.inr ⟨by rfl,rfl⟩) ?_ ?_;rotate_left
            ·exact zqs
            refine pure_ (i:=29) (N:=some 68) (v:=undef) (a':=?_) (zqb 40 1073741823) rfl rfl (any_of HT_.out zqk) (fun _ _ _ h=>h) (Or.inr ⟨by rfl,rfl⟩) ?_ ?_;rotate_left
            ·exact zqs
            refine pure_ (i:=30) (N:=some 69) (v:=undef) (a':=?_) (zqb 40 2147483647) rfl rfl (any_of HT_.out zqk) (fun _ _ _ h=>h) (Or.inr ⟨by rfl,rfl⟩) ?_ ?_;rotate_left
            ·exact zqs
            refine pure_ (i:=31) (N:=some 70) (v:=undef) (a':=?_) (zqb 40 4294967295) rfl rfl (any_of HT_.out zqk) (fun _ _ _ h=>h) (Or.inr ⟨by rfl,rfl⟩) ?_ ?_;rotate_left
            ·exact zqs
            refine pure_ (i:=32) (N:=some 71) (v:=undef) (a':=?_) (zqb 40 8589934591) rfl rfl (any_of HT_.out zqk) (fun _ _ _ h=>h) (Or.inr ⟨by rfl,rfl⟩) ?_ ?_;rotate_left
            ·exact zqs
            refine pure_ (i:=33) (N:=some 72) (v:=undef) (a':=?_) (zqb 40 17179869183) rfl rfl (any_of HT_.out zqk) (fun _ _ _ h=>h) (Or.inr ⟨by rfl,rfl⟩) ?_ ?_;rotate_left
            ·exact zqs
            refine pure_ (i:=34) (N:=some 73) (v:=undef) (a':=?_) (zqb 40 34359738367) rfl rfl (any_of HT_.out zqk) (fun _ _ _ h=>h) (Or.inr ⟨by rfl,rfl⟩) ?_ ?_;rotate_left
            ·exact zqs
            refine pure_ (i:=35) (N:=some 74) (v:=undef) (a':=?_) (zqb 40 68719476735) rfl rfl (any_of HT_.out zqk) (fun _ _ _ h=>h) (Or.inr ⟨by rfl,rfl⟩) ?_ ?_;rotate_left
            ·exact zqs
            refine pure_ (i:=36) (N:=some 75) (v:=undef) (a':=?_) (zqb 40 137438953471) rfl rfl (any_of HT_.out zqk) (fun _ _ _ h=>h) (Or.inr ⟨by rfl,rfl⟩) ?_ ?_;rotate_left
            ·exact zqs
            refine pure_ (i:=37) (N:=some 76) (v:=undef) (a':=?_) (zqb 40 274877906943) rfl rfl (any_of HT_.out zqk) (fun _ _ _ h=>h) (Or.inr ⟨by rfl,rfl⟩) ?_ ?_;rotate_left
            ·exact zqs
            refine pure_ (i:=38) (N:=some 77) (v:=undef) (a':=?_) (zqb 40 549755813887) rfl rfl (any_of HT_.out zqk) (fun _ _ _ h=>h) (Or.inr ⟨by rfl,rfl⟩) ?_ ?_;rotate_left
            ·exact zqs
            refine pure_ (i:=39) (N:=some 78) (v:=?_) (a':=?_) (zqb 40 1099511627775) rfl rfl (any_of HT_.out zqk) (fun _ _ _ h=>h) (Or.inl ⟨by rfl,?_⟩) ?_ ?_;rotate_left
            ·exact zqt
            rotate_left
            ·exact zqs
            refine done_ (done_of HT_.out zqk) ?_;try go_wp2
            go_roundg k1
            (case measure=>have:=d4.out;omega);case rel=>exact⟨(wrap64 (a0+1)),(by first|rfl|(simp;done)|(simp [*];done)),H',⟨by have:=d4.out;omega⟩,⟨zq16⟩,⟨zq9⟩⟩
          ·rw [if_neg e8] at H;exact absurd H (by simp)
         ·rw [if_neg e7] at H;exact absurd H (by simp)
        ·rw [if_neg e6] at H;exact absurd H (by simp)
       ·rw [if_neg e5] at H;exact absurd H (by simp)
    ·rw [if_neg c7] at H;have h0:decide (a0<(wrap64 ((wrap64 ((l0_1.length:Int)*(l0_1.length:Int)))*(l0_1.length:Int))))=false:=decide_eq_false c7;clear c7;simp only [Option.some.injEq,Prod.mk.injEq] at H;obtain⟨rfl,rfl,rfl,rfl⟩:=H
     go_wp2
     refine bodyPost_ret (results_list (rs:= [.tmp 2,.tmp 3,.tmp 4,.tmp 5]) rfl (by simp) (.tmp (.tmp (.tmp (.tmp .nil))))) rfl ?_;exact⟨zq11,zq9⟩
 ·replace c3:=Bool.eq_false_iff.mpr c3;subst c3;(have H1:(some ((-1),(-1),(-1),false))=some (r1,r2,r3,r4):=by rw [if_neg (show¬(false=true) by decide)] at H;exact H);clear H;have H:=H1;clear H1;simp only [Option.some.injEq,Prod.mk.injEq] at H;obtain⟨rfl,rfl,rfl,rfl⟩:=H
  go_enter Try.func41,Try.ntmps41
  go_wp2_with (first|((with_reducible refine gate_dst (N:=1) rfl ?_);refine box_event ?hg (N:=1) ?hd (cs:= #[.slice A0_0 l0_0.length c0_0,.slice A0_1 l0_1.length c0_1]) (t:=30) ?hr ?_;(case hd=>rfl);(case hg=>rfl);(case hr=>first|(go_simp;done)|(go_simp;rfl));intro a7 hg g9 hbox hb;have e2:=zqm (below_step zq0 hb);have a1:=zqm (hbox);have f9:=zqm ((by rw [hg];exact(below_size zq0):w.heap.size≤a7));have a8:=zqm ((by rw [hg];exact(below_size zq0):w.heap.size≤a7));clear HB;have HB:=e2;clear e2 hb hbox hg;have h1:g9.cell? ⟨a7,0,none⟩=some (.slice A0_0 l0_0.length c0_0):=(blk_cell a1.out 0).trans rfl;have h2:g9.cell? ⟨a7,1,none⟩=some (.slice A0_1 l0_1.length c0_1):=(blk_cell a1.out 1).trans rfl;have h3:=blk_frozen a1.out 0;have h4:=blk_frozen a1.out 1)|((with_reducible refine gate_callee (f:=42) rfl ?_);refine goesL_ (some 15) rfl rfl Try.func42 zqk rfl #[.agg #[.slice A0_0 l0_0.length c0_0,.slice A0_1 l0_1.length c0_1]] rfl zq1 ?_;(with_reducible refine(spec_LogicOk.calls k _ _ l0_0 _ _ l0_1 false _ ?side1 ?side2 ?side3 ?side4 A2.out).mono ?_);(case side1=> exact zq57);(case side2=>exact b5.out);(case side3=> exact zq348);(case side4=>exact e4.out);rintro e i8 ⟨rfl,hb⟩;refine⟨_,rfl,?_⟩;replace a1:=zqm (blk_below (g:=a7) (o:= .cells #[.slice A0_0 l0_0.length c0_0,.slice A0_1 l0_1.length c0_1] 30 (0,0)) zq16 hb);replace HB:=zqm (below_step zq9 hb);clear hb))
  refine bodyPost_ret (results_list (rs:= [.tmp 2,.tmp 3,.tmp 4,.tmp 5]) rfl (by simp) (.tmp (.tmp (.tmp (.tmp .nil))))) rfl ?_;exact⟨zq11,zq9⟩
end Go.Proofs.Ytdoomkcgdcfmlaa.Print
end
section
namespace Go.Proofs.Ytdoomkcgdcfmlaa.Print
open Go.RowKit Go.Proofs.YtdoomkcgdcfmlaaW.PrintWords Go.Proofs.YtdoomkcgdcfmlaaW.PrintLast Go.Proofs.YtdoomkcgdcfmlaaW.PrintMore
open Oml
theorem tdiv_nat (i n : Nat) : Int.tdiv (i : Int) (n : Int) = ((i / n : Nat) : Int) := by first | exact (Int.ofNat_tdiv i n).symm | rfl
theorem tmod_nat (i n : Nat) : Int.tmod (i : Int) (n : Int) = ((i % n : Nat) : Int) := by first | exact (Int.ofNat_tmod i n).symm | rfl
theorem wrap_cast {x : Nat} (h : x < 1000000) : wrap64 (x : Int) = (x : Int) := wrap_small (by omega) (by omega)
theorem cube_small {n : Nat} (h : n ≤ 12) : n * n * n ≤ 1728 := by
  have h1 : n * n ≤ 144 := Nat.mul_le_mul h h
  exact Nat.mul_le_mul h1 h
theorem wrap_cube {n : Nat} (h : n ≤ 12) : wrap64 (wrap64 ((n : Int) * n) * n) = ((n * n * n : Nat) : Int) := by
  have h1:n*n≤144:=Nat.mul_le_mul h h
  have h2:=cube_small h
  rw [show (n:Int)*n=((n*n:Nat):Int) by simp,wrap_cast (by omega),show ((n*n:Nat):Int)*n=((n*n*n:Nat):Int) by simp,wrap_cast (by omega)]
theorem andI_nat (U : List (List Int)) (a b : Nat) : andI U a b = mI U a b := by simp [andI]
theorem orI_nat (U : List (List Int)) (a b : Nat) : orI U a b = jI U a b := by simp [orI]
theorem leI_nat (U : List (List Int)) (a b : Nat) : leI U a b = leB U a b := by simp [leI]
theorem mI_comm (U : List (List Int)) (a b : Nat) : mI U a b = mI U b a := by unfold mI; rw [meetO_comm]
theorem jI_comm (U : List (List Int)) (a b : Nat) : jI U a b = jI U b a := by unfold jI; rw [joinO_comm]
theorem spec_PentagonOf.ev (U : List (List Int)) (N : List Int) : Ev (fun k => spec_PentagonOf.f k U N) (if logicB U N = true then pentV U else (-1, -1, -1, false)) := by
  unfold spec_PentagonOf.f
  refine Ev.bind (spec_LogicOk.ev U N) ?_
  cases hl:logicB U N with
  | false => repeat (first | ((with_reducible refine Ev.ite_pos ?_ ?_); (first | assumption | (focus omega) | (focus (simp; done)))) | ((with_reducible refine Ev.ite_neg ?_ ?_); (first | assumption | (focus omega) | (focus (simp; done)))))
             exact Ev.now _
  | true =>
    have L:=logicB_iff.1 hl
    have O:=L.toOrder
    have hs:=L.small
    have hp:=L.pos
    have hc3:=cube_small hs
    rw [L.len]
    repeat(first|((with_reducible refine Ev.ite_pos ?_ ?_);(first|assumption|(focus omega)|(focus (simp;done))))|((with_reducible refine Ev.ite_neg ?_ ?_);(first|assumption|(focus omega)|(focus (simp;done)))))
    refine Ev.eq (Ev.find (n:=U.length*U.length*U.length) (g:=fun k i=>spec_PentagonOf.l0 k U.length i U N) (pentK U) (none':=(-1,-1,-1,false)) (some':=fun k=>(((k / U.length / U.length:Nat):Int),((k / U.length % U.length:Nat):Int),((k % U.length:Nat):Int),true)) (by omega) (fun _=>?_) fun i hi _ R hR=>?_) (by rw [if_pos rfl];unfold pentV pentO;cases findN (U.length*U.length*U.length) (pentK U) <;> rfl)
    · refine Ev.succ ?_
      simp only [spec_PentagonOf.l0,wrap_cube hs]
      repeat(first|((with_reducible refine Ev.ite_pos ?_ ?_);(first|assumption|(focus omega)|(focus (simp;done))))|((with_reducible refine Ev.ite_neg ?_ ?_);(first|assumption|(focus omega)|(focus (simp;done)))))
      exact Ev.now _
    · have hi1 : i / U.length < U.length * U.length := Nat.div_lt_of_lt_mul (by rw [Nat.mul_comm]; exact hi)
      have ha:i / U.length / U.length<U.length:=Nat.div_lt_of_lt_mul hi1
      have hc:i / U.length % U.length<U.length:=Nat.mod_lt _ hp
      have hb:i % U.length<U.length:=Nat.mod_lt _ hp
      have w1:wrap64 ((i / U.length:Nat):Int)=((i / U.length:Nat):Int):=wrap_cast (by have:U.length*U.length≤144:=Nat.mul_le_mul hs hs;omega)
      have w2:wrap64 ((i / U.length / U.length:Nat):Int)=((i / U.length / U.length:Nat):Int):=wrap_cast (by omega)
      have hK:pentK U i=pentP U (i / U.length / U.length) (i / U.length % U.length) (i % U.length):=rfl
      rw [hK] at hR ⊢
      refine Ev.succ ?_
      simp only [spec_PentagonOf.l0,wrap_cube hs,tdiv_nat,tmod_nat,w1,w2,rdL_nat,rd_nat,rd_row]
      generalize i / U.length / U.length=a at*
      generalize i / U.length % U.length=c at*
      generalize i % U.length=b at*
      have hra:=O.row a ha
      have vac:=O.val ha hc
      repeat(first|((with_reducible refine Ev.ite_pos ?_ ?_);(first|assumption|(focus omega)|(focus (simp;done))))|((with_reducible refine Ev.ite_neg ?_ ?_);(first|assumption|(focus omega)|(focus (simp;done)))))
      unfold pentP at hR ⊢
      rw [leI_nat,andI_nat,andI_nat,orI_nat,orI_nat] at hR ⊢
      by_cases e1:a=c
      · repeat (first | ((with_reducible refine Ev.ite_pos ?_ ?_); (first | assumption | (focus omega) | (focus (simp; done)))) | ((with_reducible refine Ev.ite_neg ?_ ?_); (first | assumption | (focus omega) | (focus (simp; done)))))
        exact Ev.eq (hR (by simp [e1])) (by simp [e1])
      · rw [hra, vac]
        repeat(first|((with_reducible refine Ev.ite_pos ?_ ?_);(first|assumption|(focus omega)|(focus (simp;done))))|((with_reducible refine Ev.ite_neg ?_ ?_);(first|assumption|(focus omega)|(focus (simp;done)))))
        cases e2:leB U a c with
        | false => repeat (first | ((with_reducible refine Ev.ite_pos ?_ ?_); (first | assumption | (focus omega) | (focus (simp; done)))) | ((with_reducible refine Ev.ite_neg ?_ ?_); (first | assumption | (focus omega) | (focus (simp; done)))))
                   exact Ev.eq (hR (by simp [e2])) (by simp)
        | true =>
          repeat(first|((with_reducible refine Ev.ite_pos ?_ ?_);(first|assumption|(focus omega)|(focus (simp;done))))|((with_reducible refine Ev.ite_neg ?_ ?_);(first|assumption|(focus omega)|(focus (simp;done)))))
          refine Ev.bind (spec_l1Meet.ev O ha hb) (Ev.bind (spec_l1Meet.ev O hc hb) ?_)
          rw [mI_comm U a b,mI_comm U c b]
          by_cases e3:mI U b a=mI U b c
          · repeat (first | ((with_reducible refine Ev.ite_pos ?_ ?_); (first | assumption | (focus omega) | (focus (simp; done)))) | ((with_reducible refine Ev.ite_neg ?_ ?_); (first | assumption | (focus omega) | (focus (simp; done)))))
            refine Ev.bind (spec_l1Join.ev O ha hb) (Ev.bind (spec_l1Join.ev O hc hb) ?_)
            rw [jI_comm U a b,jI_comm U c b]
            by_cases e4:jI U b a=jI U b c
            · repeat (first | ((with_reducible refine Ev.ite_pos ?_ ?_); (first | assumption | (focus omega) | (focus (simp; done)))) | ((with_reducible refine Ev.ite_neg ?_ ?_); (first | assumption | (focus omega) | (focus (simp; done)))))
              exact Ev.eq (Ev.now _) (by simp [e1,e3,e4])
            · repeat (first | ((with_reducible refine Ev.ite_pos ?_ ?_); (first | assumption | (focus omega) | (focus (simp; done)))) | ((with_reducible refine Ev.ite_neg ?_ ?_); (first | assumption | (focus omega) | (focus (simp; done)))))
              exact Ev.eq (hR (by simp [e4])) (by simp [e4])
          · repeat (first | ((with_reducible refine Ev.ite_pos ?_ ?_); (first | assumption | (focus omega) | (focus (simp; done)))) | ((with_reducible refine Ev.ite_neg ?_ ?_); (first | assumption | (focus omega) | (focus (simp; done)))))
            exact Ev.eq (hR (by simp [e3])) (by simp [e3])
end Go.Proofs.Ytdoomkcgdcfmlaa.Print
end
section
namespace Go.Proofs.Ytdoomkcgdcfmlaa.Print
open Go.RowKit Go.Proofs.YtdoomkcgdcfmlaaW.PrintWords Go.Proofs.YtdoomkcgdcfmlaaW.PrintLast Go.Proofs.YtdoomkcgdcfmlaaW.PrintMore
open Oml
section
variable {U : List (List Int)} {N : List Int} (L : Logic U N)
theorem in_fin (x : Fin U.length) : In U ((x.1 : Nat) : Int) := ⟨by omega, by have := x.2; omega⟩
theorem fin_inj {x y : Fin U.length} : (((x.1 : Nat) : Int) = ((y.1 : Nat) : Int)) ↔ x = y := by
  constructor
  · intro h; exact Fin.ext (by omega)
  · intro h; rw [h]
theorem fin_beq (x y : Fin U.length) : (((x.1 : Nat) : Int) == ((y.1 : Nat) : Int)) = decide (x = y) := by
  rw [Bool.eq_iff_iff, beq_iff_eq, decide_eq_true_eq]; exact fin_inj
theorem and_fin (x y : Fin U.length) : andI U x.1 y.1 = (((L.ol.meet x y).1 : Nat) : Int) := by
  show mI U ((x.1 : Nat) : Int).toNat ((y.1 : Nat) : Int).toNat = _
  unfold mI; rw [Int.toNat_natCast, Int.toNat_natCast, L.mt_eq]; rfl
theorem or_fin (x y : Fin U.length) : orI U x.1 y.1 = (((L.ol.join x y).1 : Nat) : Int) := by
  show jI U ((x.1 : Nat) : Int).toNat ((y.1 : Nat) : Int).toNat = _
  unfold jI; rw [Int.toNat_natCast, Int.toNat_natCast, L.jn_eq]; rfl
theorem le_fin (x y : Fin U.length) : leI U x.1 y.1 = true ↔ L.ol.le x y := by
  show leB U ((x.1 : Nat) : Int).toNat ((y.1 : Nat) : Int).toNat = true ↔ _
  rw [Int.toNat_natCast, Int.toNat_natCast]; rfl
theorem leB_fin (x y : Fin U.length) : leB U x.1 y.1 = true ↔ L.ol.le x y := Iff.rfl
theorem allN_fin {n : Nat} {p : Nat → Bool} : allN n p = true ↔ ∀ x : Fin n, p x.1 = true := by
  rw [allN_iff]
  exact ⟨fun h x => h x.1 x.2, fun h i hi => h ⟨i, hi⟩⟩
end
end Go.Proofs.Ytdoomkcgdcfmlaa.Print
end
section
namespace Go.Proofs.Ytdoomkcgdcfmlaa.Print
open Go.RowKit Go.Proofs.YtdoomkcgdcfmlaaW.PrintWords Go.Proofs.YtdoomkcgdcfmlaaW.PrintLast Go.Proofs.YtdoomkcgdcfmlaaW.PrintMore
open Oml
section
variable {U : List (List Int)} {N : List Int} (L : Logic U N)
include L
theorem modB_iff : modB U = true ↔ L.ol.Modular := by
  unfold modB OL.Modular
  rw [allN_fin]
  constructor
  · intro h a b c hac
    have h1:=allN_fin.1 (h a) c
    rw [(le_fin L a c).2 hac,Bool.not_true,Bool.false_or] at h1
    have h2:=allN_fin.1 h1 b
    unfold modT at h2
    rw [and_fin L,or_fin L,or_fin L,and_fin L,fin_beq,decide_eq_true_eq] at h2
    exact h2
  · intro h a
    refine allN_fin.2 fun c=>?_
    cases hac:leI U ((a.1:Nat):Int) ((c.1:Nat):Int) with
    |false=>rfl
    | true =>
      rw [Bool.not_true,Bool.false_or]
      refine allN_fin.2 fun b=>?_
      unfold modT
      rw [and_fin L,or_fin L,or_fin L,and_fin L,fin_beq,decide_eq_true_eq]
      exact h a b c ((le_fin L a c).1 hac)
theorem pentP_fin (a c b : Fin U.length) : pentP U a.1 c.1 b.1 = true ↔ a ≠ c ∧ L.ol.le a c ∧ L.ol.meet b a = L.ol.meet b c ∧ L.ol.join b a = L.ol.join b c := by
  unfold pentP
  rw [and_fin L,and_fin L,or_fin L,or_fin L,fin_beq,fin_beq,Bool.and_eq_true,Bool.and_eq_true,Bool.and_eq_true,le_fin L,decide_eq_true_eq,decide_eq_true_eq,Bool.not_eq_true',beq_eq_false_iff_ne]
  exact⟨fun h=>⟨fun e=>h.1 (congrArg Fin.val e),h.2⟩,fun h=>⟨fun e=>h.1 (Fin.ext e),h.2⟩⟩
theorem pent_none : pentO U = none ↔ L.ol.Modular := by
  have hp:=L.pos
  rw [OL.modular_iff_pentagon]
  unfold pentO
  rw [findN_none]
  constructor
  · intro h a c b h1 h2 h3
    apply Classical.byContradiction
    intro hne
    have hk : (a.1 * U.length + c.1) * U.length + b.1 < U.length * U.length * U.length := by
      have ha:=a.2;have hc:=c.2;have hb:=b.2
      have e1 : a.1 * U.length + c.1 < U.length * U.length := by
        have:(a.1+1)*U.length≤U.length*U.length:=Nat.mul_le_mul_right _ ha
        rw [Nat.add_mul] at this;omega
      have:(a.1*U.length+c.1+1)*U.length≤U.length*U.length*U.length:=Nat.mul_le_mul_right _ e1
      rw [Nat.add_mul] at this;omega
    have:=h _ hk
    rw [pentK_at U a.2 c.2 b.2] at this
    have h4:=(pentP_fin L a c b).2 ⟨hne,h1,h2,h3⟩
    rw [this] at h4;exact absurd h4 (by simp)
  · intro h k hk
    have d1 : k / U.length / U.length < U.length := by
      rw [Nat.div_div_eq_div_mul];exact Nat.div_lt_of_lt_mul (by rw [Nat.mul_assoc] at hk ⊢;exact hk)
    have d2:k / U.length % U.length<U.length:=Nat.mod_lt _ hp
    have d3:k % U.length<U.length:=Nat.mod_lt _ hp
    show pentP U (k / U.length / U.length) (k / U.length % U.length) (k % U.length)=false
    cases e:pentP U (k / U.length / U.length) (k / U.length % U.length) (k % U.length) with
    |false=>rfl
    | true =>
      obtain⟨g1,g2,g3,g4⟩:=(pentP_fin L ⟨_,d1⟩ ⟨_,d2⟩ ⟨_,d3⟩).1 e
      exact absurd (h _ _ _ g2 g3 g4) g1
theorem pent_some {k : Nat} (h : pentO U = some k) : ∃ a c b : Fin U.length, k / U.length / U.length = a.1 ∧ k / U.length % U.length = c.1 ∧ k % U.length = b.1 ∧ a ≠ c ∧ L.ol.le a c ∧ L.ol.meet b a = L.ol.meet b c ∧ L.ol.join b a = L.ol.join b c := by
  have hp:=L.pos
  obtain⟨hk,e⟩:=findN_some h
  have d1 : k / U.length / U.length < U.length := by
    rw [Nat.div_div_eq_div_mul];exact Nat.div_lt_of_lt_mul (by rw [Nat.mul_assoc] at hk ⊢;exact hk)
  have d2:k / U.length % U.length<U.length:=Nat.mod_lt _ hp
  have d3:k % U.length<U.length:=Nat.mod_lt _ hp
  exact⟨⟨_,d1⟩,⟨_,d2⟩,⟨_,d3⟩,rfl,rfl,rfl,(pentP_fin L ⟨_,d1⟩ ⟨_,d2⟩ ⟨_,d3⟩).1 e⟩
end
end Go.Proofs.Ytdoomkcgdcfmlaa.Print
end
section
namespace Go.Proofs.Ytdoomkcgdcfmlaa.Print
open Go.RowKit Go.Proofs.YtdoomkcgdcfmlaaW.PrintWords Go.Proofs.YtdoomkcgdcfmlaaW.PrintLast Go.Proofs.YtdoomkcgdcfmlaaW.PrintMore
def spec_DrawPentagonOf.f (k : Nat) (l0 : List Int) : Option ((List (List Int)) × List Int) := (spec_l20Open.f l0).bind fun bt792 => ((spec_l20Logic.f k bt792.1 bt792.2 9).bind fun bt795 => (some (bt795.1, bt795.2.1)))
set_option maxHeartbeats 8000000 in
set_option maxRecDepth 100000 in
theorem spec_DrawPentagonOf.calls (k : Nat) (A0 : Option Addr) (c0 : Nat) (l0 : List Int) (r1 : List (List Int)) (r2 : List Int) (w : World) (hr0 : Kd.C (Kd.int .u8) w A0 l0.length l0) (hc0 : l0.length ≤ c0) (h : spec_DrawPentagonOf.f k l0 = some (r1, r2)) :
  Calls Try.prog 39 #[.slice A0 l0.length c0] w fun e w' => ∃ v0_ v1_ : Value, e = .returned (.agg #[v0_, v1_]) ∧ Kd.S (Kd.slice 3 (Kd.int .i64)) 28 w' w.heap.size (fun k_ => some k_ ≠ (v1_ : Value).ownBlock) v0_ r1 ∧ Kd.Q (Kd.int .i64) 3 w' w.heap.size (fun _ => True) v1_ r2 ∧ Below w.heap.size w w' := by
 have hu30:=Try.underlying30;have c6:=zqm hr0;have c7:=zqm hc0;clear hr0 hc0;have HB:=zqm (Below.refl w.heap.size w);have H:((spec_l20Open.f l0).bind fun b4=>((spec_l20Logic.f k b4.1 b4.2 9).bind fun a3=>(some (a3.1,a3.2.1))))=some (r1,r2):=h;clear h;replace H:=Option.bind_eq_some_iff.mp H;obtain⟨⟨b0,b1⟩,b9,H⟩:=H;replace H:((spec_l20Logic.f k b0 b1 9).bind fun a3=>(some (a3.1,a3.2.1)))=some (r1,r2):=H;have A2:=zqm b9;clear b9;replace H:=Option.bind_eq_some_iff.mp H;obtain⟨⟨a5,a8,c4⟩,c1,H⟩:=H;replace H:(some (a5,a8))=some (r1,r2):=H;have A3:=zqm c1;clear c1;simp only [Option.some.injEq,Prod.mk.injEq] at H;obtain⟨rfl,rfl⟩:=H
 go_enter Try.func39,Try.ntmps39
 go_wp2_with (first|((with_reducible refine gate_dst (N:=2) rfl ?_);refine box_event ?hg (N:=2) ?hd (cs:= #[.slice none 0 0,.slice none 0 0]) (t:=30) ?hr ?_;(case hd=>rfl);(case hg=>rfl);(case hr=>first|(go_simp;done)|(go_simp;rfl));intro a1 hg w4 hbox hb;have a9:=zqm (below_step zq0 hb);have a0:=zqm (hbox);have d3:=zqm ((by rw [hg];exact(below_size zq0):w.heap.size≤a1));have a4:=zqm ((by rw [hg];exact(below_size zq0):w.heap.size≤a1));clear HB;have HB:=a9;clear a9 hb hbox hg)|((with_reducible refine gate_callee (f:=72) rfl ?_);refine goesL_ (some 4) rfl rfl Try.func72 zqk rfl #[.slice A0 l0.length c0] rfl zq1 ?_;(with_reducible refine(spec_l20Open.calls _ _ l0 b0 b1 w _ ?side1 ?side2 ?side3 A2.out).mono ?_);(case side1=> exact zq8);(case side2=>exact c6.out);(case side3=>exact c7.out);rintro e w5 ⟨g794,rfl,hi,hb,hb2⟩;refine⟨_,rfl,?_⟩;have a9:=zqm (blk_below (g:=a1) (o:= .cells #[.slice none 0 0,.slice none 0 0] 30 (0,0)) zq2 hb2);replace HB:=zqm (hb);have a2:=zqm (hi);have a6:=zqm (IsS87.ne_blk hi (blk_below (g:=a1) (o:= .cells #[.slice none 0 0,.slice none 0 0] 30 (0,0)) zq2 hb2) (by decide));have a7:=zqm (Ne.symm (IsS87.ne_blk hi (blk_below (g:=a1) (o:= .cells #[.slice none 0 0,.slice none 0 0] 30 (0,0)) zq2 hb2) (by decide)));clear a0;have a0:=a9;clear a9 hb hb2 hi)|((with_reducible refine gate_callee (f:=85) rfl ?_);refine goesL_ (some 5) rfl rfl Try.func85 zqk rfl #[.pointer (some ⟨g794,0,none⟩),.int .i64 9] rfl zq1 ?_;(with_reducible refine(spec_l20Logic.calls k g794 b0 b1 9 a5 a8 c4 w _ ?side1 ?side2 A3.out).mono ?_);(case side1=> exact zq344);(case side2=> exact zq82);rintro e w6 ⟨d4,d5,rfl,c2,c3,hi,hb,hk⟩;refine⟨_,rfl,?_⟩;replace a0:=zqm (KeepBut.blk hk (g':=a1) (o:= .cells #[.slice none 0 0,.slice none 0 0] 30 (0,0)) zq2 a7.out (by simp));have b5:=zqm (Kd.S_lower c2 (below_size zq82));have b6:=zqm (Kd.Q_lower c3 (below_size zq82));replace HB:=zqm (hb);replace a2:=zqm (hi);clear hb hk hi c2 c3;obtain⟨b7,b8,c8⟩:=Kd.S_slice b5.out;subst c8;have d6:=a7.out;have d7:=a6.out;have c9:w6.cell? ⟨a1,0,none⟩=some (.slice none 0 0):=(blk_cell a0.out 0).trans rfl;have d0:w6.cell? ⟨a1,1,none⟩=some (.slice none 0 0):=(blk_cell a0.out 1).trans rfl;have d1:=blk_frozen a0.out 0;have d2:=blk_frozen a0.out 1;obtain⟨b2,b3,c5,_⟩:=Kd.Q_slice b6.out;subst c5))
 refine bodyPost_ret (results_cell_row rfl _ _ a1 30 #[.slice b7 a5.length b8,.slice b2 a8.length b3] (0,0) _ rfl zq52 Try.underlying30 rfl zqk) rfl ?_;exact⟨_,_,zq11,zq83,zq80,zq82⟩
end Go.Proofs.Ytdoomkcgdcfmlaa.Print
end
section
namespace Go.Proofs.Ytdoomkcgdcfmlaa.Print
open Go.RowKit Go.Proofs.YtdoomkcgdcfmlaaW.PrintWords Go.Proofs.YtdoomkcgdcfmlaaW.PrintLast Go.Proofs.YtdoomkcgdcfmlaaW.PrintMore
open Oml
def impl_AndOf.f (l0_0 : List (List Int)) (l0_1 : List Int) (a1 : Int) (a2 : Int) : Option (Int) := some (if logicB l0_0 l0_1 = true then (if [a1, a2].all (inR l0_0.length) = true then (andI l0_0 a1 a2) else (-1)) else (-1))
set_option maxHeartbeats 1000000 in
theorem impl_AndOf.calls (A0_0 : Option Addr) (c0_0 : Nat) (l0_0 : List (List Int)) (A0_1 : Option Addr) (c0_1 : Nat) (l0_1 : List Int) (a1 : Int) (a2 : Int) (r : Int) (w : World) (hr0_0 : Kd.C (Kd.slice 3 (Kd.int .i64)) w A0_0 l0_0.length l0_0) (hc0_0 : l0_0.length ≤ c0_0) (hr0_1 : Kd.C (Kd.int .i64) w A0_1 l0_1.length l0_1) (hc0_1 : l0_1.length ≤ c0_1) (h : impl_AndOf.f l0_0 l0_1 a1 a2 = some r) :
    Calls Try.prog 23 #[.agg #[.slice A0_0 l0_0.length c0_0,.slice A0_1 l0_1.length c0_1],.int .i64 a1,.int .i64 a2] w fun e w'=>e= .returned (.int .i64 r)∧Below w.heap.size w w':=by
  obtain⟨k,hF⟩:=told_facts l0_0
  have hu30:=Try.underlying30
  have hu70:=Try.underlying70
  have HF:=Aside0.mk hF
  have HR0:=Aside0.mk hr0_0
  have HC0:=Aside0.mk hc0_0
  have HR1:=Aside0.mk hr0_1
  have HC1:=Aside0.mk hc0_1
  simp only [impl_AndOf.f,Option.some.injEq] at h
  clear hr0_0 hc0_0 hr0_1 hc0_1 hF
  cases hL:logicB l0_0 l0_1 with
  | false =>
    rw [hL] at h
    have hr_:(-1)=r:=by simpa using h
    subst hr_
    have HLB:=Aside0.mk hL
    clear h hL
    go_enter Try.func23,Try.ntmps23
    go_wp2_with (first|((with_reducible refine gate_dst (N:=3) rfl ?_);refine box_event ?hg (N:=3) ?hd (cs:= #[.slice A0_0 l0_0.length c0_0,.slice A0_1 l0_1.length c0_1]) (t:=30) ?hr ?_;(case hd=>rfl);(case hg=>rfl);(case hr=>first|(go_simp;done)|(go_simp;rfl));intro gb hg_ w1 hbox hb;have HB:=Aside0.mk hb;have hx0:w1.cell? ⟨gb,0,none⟩=some (.slice A0_0 l0_0.length c0_0):=(blk_cell hbox 0).trans rfl;have hx1:w1.cell? ⟨gb,1,none⟩=some (.slice A0_1 l0_1.length c0_1):=(blk_cell hbox 1).trans rfl;have HX:=Aside0.mk hbox;clear hbox hb hg_)|(go_at_call 77;(with_reducible refine(told_n k _ _ l0_0 _ _ l0_1 _ ?s1 ?s2 ?s3 ?s4 HF.out HLB.out).mono ?_);(case s1=>exact Kd.C_below HR0.out HB.out);(case s2=>exact HC0.out);(case s3=>exact Kd.C_below HR1.out HB.out);(case s4=>exact HC1.out);rintro e w2 ⟨rfl,hb⟩;have HB2:=Aside0.mk (below_step HB.out hb);clear hb hx0 hx1 HX HB)|(go_at_call 78;(with_reducible refine(knows_nil _ _ _ _).mono ?_);rintro e w3 ⟨rfl,hb⟩;have HB3:=Aside0.mk (below_step zq116 hb);clear hb))
    go_ret
    exact⟨rfl,HB3.out⟩
  | true =>
    have HLB:=Aside0.mk hL
    have HLg:=Aside0.mk (logicB_iff.1 hL)
    cases hin: [a1,a2].all (inR l0_0.length) with
    | false =>
      rw [hL,hin] at h
      have hr_:(-1)=r:=by simpa using h
      subst hr_
      have HIN:=Aside0.mk hin
      clear h hL hin
      go_enter Try.func23,Try.ntmps23
      go_wp2_with (first|((with_reducible refine gate_dst (N:=3) rfl ?_);refine box_event ?hg (N:=3) ?hd (cs:= #[.slice A0_0 l0_0.length c0_0,.slice A0_1 l0_1.length c0_1]) (t:=30) ?hr ?_;(case hd=>rfl);(case hg=>rfl);(case hr=>first|(go_simp;done)|(go_simp;rfl));intro gb hg_ w1 hbox hb;have HB:=Aside0.mk hb;have hx0:w1.cell? ⟨gb,0,none⟩=some (.slice A0_0 l0_0.length c0_0):=(blk_cell hbox 0).trans rfl;have hx1:w1.cell? ⟨gb,1,none⟩=some (.slice A0_1 l0_1.length c0_1):=(blk_cell hbox 1).trans rfl;have HX:=Aside0.mk hbox;clear hbox hb hg_)|(go_at_call 77;(with_reducible refine(told_y k _ _ l0_0 _ _ l0_1 _ ?s1 ?s2 ?s3 ?s4 HF.out HLB.out).mono ?_);(case s1=>exact Kd.C_below HR0.out HB.out);(case s2=>exact HC0.out);(case s3=>exact Kd.C_below HR1.out HB.out);(case s4=>exact HC1.out);rintro e w2 ⟨g,v,rfl,hv,hge,hb⟩;have HB2:=Aside0.mk (below_step HB.out hb);have HV:=Aside0.mk hv;clear hv hge hb hx0 hx1 HX HB)|(go_at_call 78;(with_reducible refine(knows_calls g l0_0 l0_1 v _ HLg.out ?s1 _ _ [a1,a2] 2 rfl ?s2 (by omega) false HIN.out).mono ?_);(case s1=>exact View.alloc HV.out _);(case s2=>exact lit_C _ _ [a1,a2] (by simp));rintro e w3 ⟨rfl,hb⟩;have HB3:=Aside0.mk (below_step (below_alloc HB2.out _) hb);have HV3:=Aside0.mk (View.below (View.alloc HV.out _) hb);clear hb))
      go_ret
      exact⟨rfl,HB3.out⟩
    | true =>
      rw [hL,hin] at h
      have hr_:(andI l0_0 a1 a2)=r:=by simpa using h
      subst hr_
      have HIN:=Aside0.mk hin
      have hin2:=hin
      simp only [List.all_cons,List.all_nil,Bool.and_true,Bool.and_eq_true,inR_iff] at hin2
      have Ia1:=Aside0.mk (hin2.1)
      have Ia2:=Aside0.mk (hin2.2)
      clear h hL hin hin2
      go_enter Try.func23,Try.ntmps23
      go_wp2_with (first|((with_reducible refine gate_dst (N:=3) rfl ?_);refine box_event ?hg (N:=3) ?hd (cs:= #[.slice A0_0 l0_0.length c0_0,.slice A0_1 l0_1.length c0_1]) (t:=30) ?hr ?_;(case hd=>rfl);(case hg=>rfl);(case hr=>first|(go_simp;done)|(go_simp;rfl));intro gb hg_ w1 hbox hb;have HB:=Aside0.mk hb;have hx0:w1.cell? ⟨gb,0,none⟩=some (.slice A0_0 l0_0.length c0_0):=(blk_cell hbox 0).trans rfl;have hx1:w1.cell? ⟨gb,1,none⟩=some (.slice A0_1 l0_1.length c0_1):=(blk_cell hbox 1).trans rfl;have HX:=Aside0.mk hbox;clear hbox hb hg_)|(go_at_call 77;(with_reducible refine(told_y k _ _ l0_0 _ _ l0_1 _ ?s1 ?s2 ?s3 ?s4 HF.out HLB.out).mono ?_);(case s1=>exact Kd.C_below HR0.out HB.out);(case s2=>exact HC0.out);(case s3=>exact Kd.C_below HR1.out HB.out);(case s4=>exact HC1.out);rintro e w2 ⟨g,v,rfl,hv,hge,hb⟩;have HB2:=Aside0.mk (below_step HB.out hb);have HV:=Aside0.mk hv;clear hv hge hb hx0 hx1 HX HB)|(go_at_call 78;(with_reducible refine(knows_calls g l0_0 l0_1 v _ HLg.out ?s1 _ _ [a1,a2] 2 rfl ?s2 (by omega) true HIN.out).mono ?_);(case s1=>exact View.alloc HV.out _);(case s2=>exact lit_C _ _ [a1,a2] (by simp));rintro e w3 ⟨rfl,hb⟩;have HB3:=Aside0.mk (below_step (below_alloc HB2.out _) hb);have HV3:=Aside0.mk (View.below (View.alloc HV.out _) hb);clear hb;have b0_:=eq_true Ia1.out.1;have c0_:=eq_true Ia1.out.2;have b1_:=eq_true Ia2.out.1;have c1_:=eq_true Ia2.out.2;have hf1_:=HV3.out.f1;have r3_:=HV3.out.m a1 Ia1.out;have s4_:=HV3.out.m2 a1 a2 Ia1.out Ia2.out))
      go_ret
      exact⟨rfl,HB3.out⟩
def impl_OrOf.f (l0_0 : List (List Int)) (l0_1 : List Int) (a1 : Int) (a2 : Int) : Option (Int) := some (if logicB l0_0 l0_1 = true then (if [a1, a2].all (inR l0_0.length) = true then (orI l0_0 a1 a2) else (-1)) else (-1))
set_option maxHeartbeats 1000000 in
theorem impl_OrOf.calls (A0_0 : Option Addr) (c0_0 : Nat) (l0_0 : List (List Int)) (A0_1 : Option Addr) (c0_1 : Nat) (l0_1 : List Int) (a1 : Int) (a2 : Int) (r : Int) (w : World) (hr0_0 : Kd.C (Kd.slice 3 (Kd.int .i64)) w A0_0 l0_0.length l0_0) (hc0_0 : l0_0.length ≤ c0_0) (hr0_1 : Kd.C (Kd.int .i64) w A0_1 l0_1.length l0_1) (hc0_1 : l0_1.length ≤ c0_1) (h : impl_OrOf.f l0_0 l0_1 a1 a2 = some r) :
    Calls Try.prog 43 #[.agg #[.slice A0_0 l0_0.length c0_0,.slice A0_1 l0_1.length c0_1],.int .i64 a1,.int .i64 a2] w fun e w'=>e= .returned (.int .i64 r)∧Below w.heap.size w w':=by
  obtain⟨k,hF⟩:=told_facts l0_0
  have hu30:=Try.underlying30
  have hu70:=Try.underlying70
  have HF:=Aside0.mk hF
  have HR0:=Aside0.mk hr0_0
  have HC0:=Aside0.mk hc0_0
  have HR1:=Aside0.mk hr0_1
  have HC1:=Aside0.mk hc0_1
  simp only [impl_OrOf.f,Option.some.injEq] at h
  clear hr0_0 hc0_0 hr0_1 hc0_1 hF
  cases hL:logicB l0_0 l0_1 with
  | false =>
    rw [hL] at h
    have hr_:(-1)=r:=by simpa using h
    subst hr_
    have HLB:=Aside0.mk hL
    clear h hL
    go_enter Try.func43,Try.ntmps43
    go_wp2_with (first|((with_reducible refine gate_dst (N:=3) rfl ?_);refine box_event ?hg (N:=3) ?hd (cs:= #[.slice A0_0 l0_0.length c0_0,.slice A0_1 l0_1.length c0_1]) (t:=30) ?hr ?_;(case hd=>rfl);(case hg=>rfl);(case hr=>first|(go_simp;done)|(go_simp;rfl));intro gb hg_ w1 hbox hb;have HB:=Aside0.mk hb;have hx0:w1.cell? ⟨gb,0,none⟩=some (.slice A0_0 l0_0.length c0_0):=(blk_cell hbox 0).trans rfl;have hx1:w1.cell? ⟨gb,1,none⟩=some (.slice A0_1 l0_1.length c0_1):=(blk_cell hbox 1).trans rfl;have HX:=Aside0.mk hbox;clear hbox hb hg_)|(go_at_call 77;(with_reducible refine(told_n k _ _ l0_0 _ _ l0_1 _ ?s1 ?s2 ?s3 ?s4 HF.out HLB.out).mono ?_);(case s1=>exact Kd.C_below HR0.out HB.out);(case s2=>exact HC0.out);(case s3=>exact Kd.C_below HR1.out HB.out);(case s4=>exact HC1.out);rintro e w2 ⟨rfl,hb⟩;have HB2:=Aside0.mk (below_step HB.out hb);clear hb hx0 hx1 HX HB)|(go_at_call 78;(with_reducible refine(knows_nil _ _ _ _).mono ?_);rintro e w3 ⟨rfl,hb⟩;have HB3:=Aside0.mk (below_step zq116 hb);clear hb))
    go_ret
    exact⟨rfl,HB3.out⟩
  | true =>
    have HLB:=Aside0.mk hL
    have HLg:=Aside0.mk (logicB_iff.1 hL)
    cases hin: [a1,a2].all (inR l0_0.length) with
    | false =>
      rw [hL,hin] at h
      have hr_:(-1)=r:=by simpa using h
      subst hr_
      have HIN:=Aside0.mk hin
      clear h hL hin
      go_enter Try.func43,Try.ntmps43
      go_wp2_with (first|((with_reducible refine gate_dst (N:=3) rfl ?_);refine box_event ?hg (N:=3) ?hd (cs:= #[.slice A0_0 l0_0.length c0_0,.slice A0_1 l0_1.length c0_1]) (t:=30) ?hr ?_;(case hd=>rfl);(case hg=>rfl);(case hr=>first|(go_simp;done)|(go_simp;rfl));intro gb hg_ w1 hbox hb;have HB:=Aside0.mk hb;have hx0:w1.cell? ⟨gb,0,none⟩=some (.slice A0_0 l0_0.length c0_0):=(blk_cell hbox 0).trans rfl;have hx1:w1.cell? ⟨gb,1,none⟩=some (.slice A0_1 l0_1.length c0_1):=(blk_cell hbox 1).trans rfl;have HX:=Aside0.mk hbox;clear hbox hb hg_)|(go_at_call 77;(with_reducible refine(told_y k _ _ l0_0 _ _ l0_1 _ ?s1 ?s2 ?s3 ?s4 HF.out HLB.out).mono ?_);(case s1=>exact Kd.C_below HR0.out HB.out);(case s2=>exact HC0.out);(case s3=>exact Kd.C_below HR1.out HB.out);(case s4=>exact HC1.out);rintro e w2 ⟨g,v,rfl,hv,hge,hb⟩;have HB2:=Aside0.mk (below_step HB.out hb);have HV:=Aside0.mk hv;clear hv hge hb hx0 hx1 HX HB)|(go_at_call 78;(with_reducible refine(knows_calls g l0_0 l0_1 v _ HLg.out ?s1 _ _ [a1,a2] 2 rfl ?s2 (by omega) false HIN.out).mono ?_);(case s1=>exact View.alloc HV.out _);(case s2=>exact lit_C _ _ [a1,a2] (by simp));rintro e w3 ⟨rfl,hb⟩;have HB3:=Aside0.mk (below_step (below_alloc HB2.out _) hb);have HV3:=Aside0.mk (View.below (View.alloc HV.out _) hb);clear hb))
      go_ret
      exact⟨rfl,HB3.out⟩
    | true =>
      rw [hL,hin] at h
      have hr_:(orI l0_0 a1 a2)=r:=by simpa using h
      subst hr_
      have HIN:=Aside0.mk hin
      have hin2:=hin
      simp only [List.all_cons,List.all_nil,Bool.and_true,Bool.and_eq_true,inR_iff] at hin2
      have Ia1:=Aside0.mk (hin2.1)
      have Ia2:=Aside0.mk (hin2.2)
      clear h hL hin hin2
      go_enter Try.func43,Try.ntmps43
      go_wp2_with (first|((with_reducible refine gate_dst (N:=3) rfl ?_);refine box_event ?hg (N:=3) ?hd (cs:= #[.slice A0_0 l0_0.length c0_0,.slice A0_1 l0_1.length c0_1]) (t:=30) ?hr ?_;(case hd=>rfl);(case hg=>rfl);(case hr=>first|(go_simp;done)|(go_simp;rfl));intro gb hg_ w1 hbox hb;have HB:=Aside0.mk hb;have hx0:w1.cell? ⟨gb,0,none⟩=some (.slice A0_0 l0_0.length c0_0):=(blk_cell hbox 0).trans rfl;have hx1:w1.cell? ⟨gb,1,none⟩=some (.slice A0_1 l0_1.length c0_1):=(blk_cell hbox 1).trans rfl;have HX:=Aside0.mk hbox;clear hbox hb hg_)|(go_at_call 77;(with_reducible refine(told_y k _ _ l0_0 _ _ l0_1 _ ?s1 ?s2 ?s3 ?s4 HF.out HLB.out).mono ?_);(case s1=>exact Kd.C_below HR0.out HB.out);(case s2=>exact HC0.out);(case s3=>exact Kd.C_below HR1.out HB.out);(case s4=>exact HC1.out);rintro e w2 ⟨g,v,rfl,hv,hge,hb⟩;have HB2:=Aside0.mk (below_step HB.out hb);have HV:=Aside0.mk hv;clear hv hge hb hx0 hx1 HX HB)|(go_at_call 78;(with_reducible refine(knows_calls g l0_0 l0_1 v _ HLg.out ?s1 _ _ [a1,a2] 2 rfl ?s2 (by omega) true HIN.out).mono ?_);(case s1=>exact View.alloc HV.out _);(case s2=>exact lit_C _ _ [a1,a2] (by simp));rintro e w3 ⟨rfl,hb⟩;have HB3:=Aside0.mk (below_step (below_alloc HB2.out _) hb);have HV3:=Aside0.mk (View.below (View.alloc HV.out _) hb);clear hb;have b0_:=eq_true Ia1.out.1;have c0_:=eq_true Ia1.out.2;have b1_:=eq_true Ia2.out.1;have c1_:=eq_true Ia2.out.2;have hf2_:=HV3.out.f2;have r3_:=HV3.out.j a1 Ia1.out;have s4_:=HV3.out.j2 a1 a2 Ia1.out Ia2.out))
      go_ret
      exact⟨rfl,HB3.out⟩
end Go.Proofs.Ytdoomkcgdcfmlaa.Print
end
section
namespace Go.Proofs.Ytdoomkcgdcfmlaa.Print
open Go.RowKit Go.Proofs.YtdoomkcgdcfmlaaW.PrintWords Go.Proofs.YtdoomkcgdcfmlaaW.PrintLast Go.Proofs.YtdoomkcgdcfmlaaW.PrintMore
mutual
def laws_FnPentagonOf.j0 : Nat → Int → Int → Int → Bool → Bool → List (List Int) → List Int → Option (Bool)
 | 0, _, _, _, _, _, _, _ => none
 | k + 1, x4, x5, x6, x7, x48, x817000, x817001 => if x48 = true then (some false) else ((spec_LogicOk.f k x817000 x817001).bind fun t825 => (if t825 = true then ((impl_ModularOk.f x817000 x817001).bind fun t826 => (laws_FnPentagonOf.j1 k x4 x5 x6 x7 (x7 != (!t826)) x817000 x817001)) else (laws_FnPentagonOf.j1 k x4 x5 x6 x7 (x7 != false) x817000 x817001)))
def laws_FnPentagonOf.j1 : Nat → Int → Int → Int → Bool → Bool → List (List Int) → List Int → Option (Bool)
 | 0, _, _, _, _, _, _, _ => none
 | k + 1, x4, x5, x6, x7, x57, x817000, x817001 => if x57 = true then (some false) else (if x7 = true then (if x4 = x5 then (some false) else (if 0 ≤ x4 then (if x4 < (x817000.length : Int) then (if 0 ≤ x5 then (if x5 < ((rd_L3 x817000 x4).length : Int) then (if (rd (rd_L3 x817000 x4) x5) = 1 then ((impl_AndOf.f x817000 x817001 x4 x6).bind fun t830 => ((impl_AndOf.f x817000 x817001 x5 x6).bind fun t831 => (if t830 = t831 then ((impl_OrOf.f x817000 x817001 x4 x6).bind fun t832 => ((impl_OrOf.f x817000 x817001 x5 x6).bind fun t833 => (some (t832 == t833)))) else (some false)))) else (some false)) else (none)) else (none)) else (none)) else (none))) else (if x4 = (-1) then (if x6 = (-1) then (if x5 = (-1) then ((laws_alive.f k).bind fun t827 => (some t827)) else (some false)) else (some false)) else (some false)))
end
def laws_FnPentagonOf.f (k : Nat) (l0 : List Int) : Option (Bool) := if (l0.length : Int) > 1048576 then (some true) else ((spec_DrawPentagonOf.f k l0).bind fun bt810 => ((impl_PentagonOf.f bt810.1 bt810.2).bind fun bt817 => ((spec_PentagonOf.f k bt810.1 bt810.2).bind fun bt821 => (if bt817.1 = bt821.1 then (if bt817.2.1 = bt821.2.1 then (if bt817.2.2.1 = bt821.2.2.1 then (laws_FnPentagonOf.j0 k bt817.1 bt817.2.1 bt817.2.2.1 bt817.2.2.2 (bt817.2.2.2 != bt821.2.2.2) bt810.1 bt810.2) else (laws_FnPentagonOf.j0 k bt817.1 bt817.2.1 bt817.2.2.1 bt817.2.2.2 true bt810.1 bt810.2)) else (laws_FnPentagonOf.j0 k bt817.1 bt817.2.1 bt817.2.2.1 bt817.2.2.2 true bt810.1 bt810.2)) else (laws_FnPentagonOf.j0 k bt817.1 bt817.2.1 bt817.2.2.1 bt817.2.2.2 true bt810.1 bt810.2)))))
def laws_FnPentagonOf.T12 : Bool × List (List Nat × List Nat) := (true, [([], []), ([], []), ([0, 1], [0, 1]), ([2], [2]), ([3], [3]), ([4, 3], [3, 4]), ([3], [3]), ([5, 6, 3], [3, 5, 6]), ([7, 3], [3, 7]), ([3], [3]), ([8, 9, 3], [3, 8, 9]), ([10, 3], [3, 10]), ([11, 3], [3, 11]), ([3, 12], [3, 12]), ([13, 3], [13]), ([14], [14]), ([14], [14]), ([14], [14]), ([15, 16, 17, 14, 14], [14, 15, 16, 17]), ([14], [14]), ([14], [14]), ([14], [14]), ([19, 20, 21, 18, 14], [14, 19, 20, 21]), ([18, 22, 14], [14, 18, 22]), ([14, 23], [14, 23]), ([24, 22], [24]), ([25], [25]), ([25], [25]), ([25], [25]), ([26, 27, 28, 25, 25], [25, 26, 27, 28]), ([25], [25]), ([25], [25]), ([25], [25]), ([30, 31, 32, 29, 25], [25, 30, 31, 32]), ([29, 33, 25], [25, 29, 33]), ([25, 34], [25, 34]), ([35, 33, 0, 1, 2, 3, 4, 5, 6, 7, 8, 9, 10, 11, 12, 13, 14, 15, 16, 17, 18, 19, 20, 21, 22, 23, 24, 25, 26, 27, 28, 29, 30, 31, 32, 33, 34, 35], [35])])
def laws_FnPentagonOf.B12 : List Nat := [0, 0, 3, 7, 15, 31, 15, 127, 255, 15, 1023, 2047, 4095, 8191, 16383, 32767, 32767, 32767, 262143, 32767, 32767, 32767, 4194303, 8388607, 16777215, 33554431, 67108863, 67108863, 67108863, 536870911, 67108863, 67108863, 67108863, 8589934591, 17179869183, 34359738367, 68719476735]
theorem laws_FnPentagonOf.tab12 : rtab .any (opsOf Try.f8 12) = laws_FnPentagonOf.T12 := by kernel_rfl
theorem laws_FnPentagonOf.bits12 : waitsOk laws_FnPentagonOf.T12.2 laws_FnPentagonOf.B12 = true := by kernel_rfl
set_option maxHeartbeats 8000000 in
set_option maxRecDepth 100000 in
theorem laws_FnPentagonOf.calls (k : Nat) (A0 : Option Addr) (c0 : Nat) (l0 : List Int) (r : Bool) (w : World) (hr0 : Kd.C (Kd.int .u8) w A0 l0.length l0) (hc0 : l0.length ≤ c0) (h : laws_FnPentagonOf.f k l0 = some r) :
  Calls Try.prog 8 #[.slice A0 l0.length c0] w fun e w' => e = .returned (.bool r) ∧ Below w.heap.size w w' := by
 have hu30:=Try.underlying30;have o7:=zqm hr0;have o8:=zqm hc0;clear hr0 hc0;have HB:=zqm (Below.refl w.heap.size w);have H:(if(l0.length:Int)>1048576 then(some true) else((spec_DrawPentagonOf.f k l0).bind fun c9=>((impl_PentagonOf.f c9.1 c9.2).bind fun a6=>((spec_PentagonOf.f k c9.1 c9.2).bind fun c6=>(if a6.1=c6.1 then(if a6.2.1=c6.2.1 then(if a6.2.2.1=c6.2.2.1 then(laws_FnPentagonOf.j0 k a6.1 a6.2.1 a6.2.2.1 a6.2.2.2 (a6.2.2.2 !=c6.2.2.2) c9.1 c9.2) else(laws_FnPentagonOf.j0 k a6.1 a6.2.1 a6.2.2.1 a6.2.2.2 true c9.1 c9.2)) else(laws_FnPentagonOf.j0 k a6.1 a6.2.1 a6.2.2.1 a6.2.2.2 true c9.1 c9.2)) else(laws_FnPentagonOf.j0 k a6.1 a6.2.1 a6.2.2.1 a6.2.2.2 true c9.1 c9.2))))))=some r:=h;clear h
 by_cases c2:(l0.length:Int)>1048576
 ·rw [if_pos c2] at H;have i7:decide (1048576<(l0.length:Int))=true:=decide_eq_true c2;have i8:decide (1048576<l0.length)=true:=decide_eq_true (by omega);clear c2;obtain rfl:=Option.some.inj H
  go_enter Try.func8,Try.ntmps8
  go_wp2
  go_ret
  exact⟨zq11,zq0⟩
 ·rw [if_neg c2] at H;have i7:decide (1048576<(l0.length:Int))=false:=decide_eq_false c2;have i8:decide (1048576<l0.length)=false:=decide_eq_false (by omega);clear c2;replace H:=Option.bind_eq_some_iff.mp H;obtain⟨⟨a0,a2⟩,n4,H⟩:=H;replace H:((impl_PentagonOf.f a0 a2).bind fun a6=>((spec_PentagonOf.f k a0 a2).bind fun c6=>(if a6.1=c6.1 then(if a6.2.1=c6.2.1 then(if a6.2.2.1=c6.2.2.1 then(laws_FnPentagonOf.j0 k a6.1 a6.2.1 a6.2.2.1 a6.2.2.2 (a6.2.2.2 !=c6.2.2.2) a0 a2) else(laws_FnPentagonOf.j0 k a6.1 a6.2.1 a6.2.2.1 a6.2.2.2 true a0 a2)) else(laws_FnPentagonOf.j0 k a6.1 a6.2.1 a6.2.2.1 a6.2.2.2 true a0 a2)) else(laws_FnPentagonOf.j0 k a6.1 a6.2.1 a6.2.2.1 a6.2.2.2 true a0 a2))))=some r:=H;have A3:=zqm n4;clear n4;replace H:=Option.bind_eq_some_iff.mp H;obtain⟨⟨a3,a4,a5,b2⟩,n5,H⟩:=H;replace H:((spec_PentagonOf.f k a0 a2).bind fun c6=>(if a3=c6.1 then(if a4=c6.2.1 then(if a5=c6.2.2.1 then(laws_FnPentagonOf.j0 k a3 a4 a5 b2 (b2 !=c6.2.2.2) a0 a2) else(laws_FnPentagonOf.j0 k a3 a4 a5 b2 true a0 a2)) else(laws_FnPentagonOf.j0 k a3 a4 a5 b2 true a0 a2)) else(laws_FnPentagonOf.j0 k a3 a4 a5 b2 true a0 a2)))=some r:=H;have A4:=zqm n5;clear n5;replace H:=Option.bind_eq_some_iff.mp H;obtain⟨⟨f1,f2,f3,i9⟩,n6,H⟩:=H;replace H:(if a3=f1 then(if a4=f2 then(if a5=f3 then(laws_FnPentagonOf.j0 k a3 a4 a5 b2 (b2 !=i9) a0 a2) else(laws_FnPentagonOf.j0 k a3 a4 a5 b2 true a0 a2)) else(laws_FnPentagonOf.j0 k a3 a4 a5 b2 true a0 a2)) else(laws_FnPentagonOf.j0 k a3 a4 a5 b2 true a0 a2))=some r:=H;have A5:=zqm n6;clear n6;have l4:=zqm H;clear H
  go_enter Try.func8,Try.ntmps8
  go_upto_region 6 with (first|((with_reducible refine gate_callee (f:=39) rfl ?_);refine goesL_ (some 16) rfl rfl Try.func39 zqk rfl #[.slice A0 l0.length c0] rfl zq1 ?_;(with_reducible refine(spec_DrawPentagonOf.calls k _ _ l0 a0 a2 _ ?side1 ?side2 A3.out).mono ?_);(case side1=>repeat(first|exact o7.out|(with_reducible refine Kd.C_alloc ?_ _)|(with_reducible refine Kd.C_drewN ?_ _)|(with_reducible refine Kd.C_drew ?_)));(case side2=>exact o8.out);rintro e w7 ⟨q2,q3,rfl,n7,n8,hb⟩;refine⟨_,rfl,?_⟩;have b9:=zqm (Kd.S_lower n7 (below_size zq0));have c5:=zqm (Kd.Q_lower n8 (below_size zq0));replace HB:=zqm (below_step zq0 hb);clear hb n7 n8)|((with_reducible refine gate_dst (N:=3) rfl ?_);refine box_event ?hg (N:=3) ?hd (cs:= #[.slice none 0 0,.slice none 0 0]) (t:=30) ?hr ?_;(case hd=>rfl);(case hg=>rfl);(case hr=>first|(go_simp;done)|(go_simp;rfl));intro a8 hg w8 hbox hb;replace b9:=zqm (Kd.S_below zq278 hb);replace c5:=zqm (Kd.Q_below zq281 hb);have n9:=zqm (below_step zq0 hb);have a1:=zqm (hbox);have p7:=zqm ((by rw [hg];exact(below_size zq0):w.heap.size≤a8));have b1:=zqm ((by rw [hg];exact(below_size zq0):w.heap.size≤a8));clear HB;have HB:=n9;clear n9 hb hbox hg;obtain⟨c7,b5,o9⟩:=Kd.S_slice b9.out;subst o9;have g8:w8.cell? ⟨a8,0,none⟩=some (.slice none 0 0):=(blk_cell a1.out 0).trans rfl;have g9:w8.cell? ⟨a8,1,none⟩=some (.slice none 0 0):=(blk_cell a1.out 1).trans rfl;have h0:=blk_frozen a1.out 0;have h1:=blk_frozen a1.out 1;obtain⟨b0,a9,o6,_⟩:=Kd.Q_slice c5.out;subst o6)|((with_reducible refine gate_callee (f:=40) rfl ?_);refine goesL_ (some 19) rfl rfl Try.func40 zqk rfl #[.agg #[.slice c7 a0.length b5,.slice b0 a2.length a9]] rfl zq1 ?_;(with_reducible refine(impl_PentagonOf.calls _ _ a0 _ _ a2 a3 a4 a5 b2 _ ?side1 ?side2 ?side3 ?side4 A4.out).mono ?_);(case side1=>refine(Kd.S_reads' (e:=28) (base:=w.heap.size) (ok:=fun k_=>some k_≠(.slice b0 a2.length a9:Value).ownBlock) (n:=a0.length) (c:=b5) ?_).2.2;exact zq241);(case side2=>exact(Kd.S_reads' b9.out).2.1);(case side3=>refine(Kd.Q_reads' (e:=3) (base:=w.heap.size) (ok:=fun k_=>True) (n:=a2.length) (c:=a9) ?_).2.2;exact zq256);(case side4=>exact(Kd.Q_reads' c5.out).2.1);rintro e o0 ⟨rfl,hb⟩;refine⟨_,rfl,?_⟩;replace b9:=zqm (Kd.S_below zq241 hb);replace c5:=zqm (Kd.Q_below zq256 hb);replace a1:=zqm (blk_below (g:=a8) (o:= .cells #[.slice c7 a0.length b5,.slice b0 a2.length a9] 30 (0,0)) (by(with_reducible repeat(first|refine blk_drewN ?_ _|refine blk_drew ?_|refine blk_alloc ?_ _));refine blk_put (cs:= #[.slice c7 a0.length b5,.slice none 0 0]) ?_ 1 _ rfl;(with_reducible repeat(first|refine blk_drewN ?_ _|refine blk_drew ?_|refine blk_alloc ?_ _));refine blk_put (cs:= #[.slice none 0 0,.slice none 0 0]) ?_ 0 _ rfl;(with_reducible repeat(first|refine blk_drewN ?_ _|refine blk_drew ?_|refine blk_alloc ?_ _));exact a1.out) hb);replace HB:=zqm (below_step zq3 hb);clear hb;have h2:o0.cell? ⟨a8,0,none⟩=some (.slice c7 a0.length b5):=(blk_cell a1.out 0).trans rfl;have h3:o0.cell? ⟨a8,1,none⟩=some (.slice b0 a2.length a9):=(blk_cell a1.out 1).trans rfl;have h4:=blk_frozen a1.out 0;have h5:=blk_frozen a1.out 1)|((with_reducible refine gate_callee (f:=41) rfl ?_);refine goesL_ (some 26) rfl rfl Try.func41 zqk rfl #[.agg #[.slice c7 a0.length b5,.slice b0 a2.length a9]] rfl zq1 ?_;(with_reducible refine(spec_PentagonOf.calls k _ _ a0 _ _ a2 f1 f2 f3 i9 _ ?side1 ?side2 ?side3 ?side4 A5.out).mono ?_);(case side1=>repeat(first|exact(Kd.S_reads' b9.out).2.2|(with_reducible refine Kd.C_alloc ?_ _)|(with_reducible refine Kd.C_drewN ?_ _)|(with_reducible refine Kd.C_drew ?_)));(case side2=>exact(Kd.S_reads' b9.out).2.1);(case side3=>repeat(first|exact(Kd.Q_reads' c5.out).2.2|(with_reducible refine Kd.C_alloc ?_ _)|(with_reducible refine Kd.C_drewN ?_ _)|(with_reducible refine Kd.C_drew ?_)));(case side4=>exact(Kd.Q_reads' c5.out).2.1);rintro e q5 ⟨rfl,hb⟩;refine⟨_,rfl,?_⟩;replace b9:=zqm (Kd.S_below zq278 hb);replace c5:=zqm (Kd.Q_below zq281 hb);replace a1:=zqm (blk_below (g:=a8) (o:= .cells #[.slice c7 a0.length b5,.slice b0 a2.length a9] 30 (0,0)) zq16 hb);replace HB:=zqm (below_step zq3 hb);clear hb))
  (try simp only [Act.put,List.setIfInBounds_toArray,List.set_cons_zero,List.set_cons_succ])
  go_cut [48] (fun p0 wc=> ∃(kq:Nat) (f9:Bool),p0= .bool f9∧Aside0 (laws_FnPentagonOf.j0 kq a3 a4 a5 b2 f9 a0 a2=some r)∧Aside0 (kq≤k)∧Aside0 (Kd.S (Kd.slice 3 (Kd.int .i64)) 28 wc w.heap.size (fun k_=>some k_≠((.slice b0 a2.length a9):Value).ownBlock) (.slice c7 a0.length b5) a0)∧Aside0 (Kd.Q (Kd.int .i64) 3 wc w.heap.size (fun _=>True) (.slice b0 a2.length a9) a2)∧Aside0 (wc.heap[a8]? =some (.cells #[(.slice c7 a0.length b5),(.slice b0 a2.length a9)] 30 (0,0)))∧Aside0 (Below w.heap.size w wc))
  case first=>
   have H:=l4.out;clear l4
   by_cases f4:a3=f1
   ·rw [if_pos f4] at H;have e5:(a3==f1)=true:=beq_iff_eq.mpr f4;have h8:(a3 !=f1)=false:=bne_eq_false_iff_eq.mpr f4;clear f4;(first|rw [e5]|(simp only [i64_w,i32_w];rw [e5])|skip)
    by_cases f5:a4=f2
    ·rw [if_pos f5] at H;have h9:(a4==f2)=true:=beq_iff_eq.mpr f5;have i0:(a4 !=f2)=false:=bne_eq_false_iff_eq.mpr f5;clear f5
     by_cases f6:a5=f3
     ·rw [if_pos f6] at H;have i1:(a5==f3)=true:=beq_iff_eq.mpr f6;have i2:(a5 !=f3)=false:=bne_eq_false_iff_eq.mpr f6;clear f6;have H':=zqm H;clear H
      go_wp2
      go_meet
      case rel=>exact⟨_,((b2 !=i9)),(by first|rfl|(simp;done)|(simp [*];done)),H',⟨by first|omega|exact Nat.le_refl _⟩,⟨zq278⟩,⟨zq281⟩,⟨zq16⟩,⟨zq3⟩⟩
     ·rw [if_neg f6] at H;have i1:(a5==f3)=false:=beq_eq_false_iff_ne.mpr f6;have i2:(a5 !=f3)=true:=bne_iff_ne.mpr f6;have H':=zqm H;clear H
      go_wp2
      go_meet
      case rel=>exact⟨_,(true),(by first|rfl|(simp;done)|(simp [*];done)),H',⟨by first|omega|exact Nat.le_refl _⟩,⟨zq278⟩,⟨zq281⟩,⟨zq16⟩,⟨zq3⟩⟩
    ·rw [if_neg f5] at H;have h9:(a4==f2)=false:=beq_eq_false_iff_ne.mpr f5;have i0:(a4 !=f2)=true:=bne_iff_ne.mpr f5;have H':=zqm H;clear H
     go_wp2
     go_meet
     case rel=>exact⟨_,(true),(by first|rfl|(simp;done)|(simp [*];done)),H',⟨by first|omega|exact Nat.le_refl _⟩,⟨zq278⟩,⟨zq281⟩,⟨zq16⟩,⟨zq3⟩⟩
   ·rw [if_neg f4] at H;have e5:(a3==f1)=false:=beq_eq_false_iff_ne.mpr f4;have h8:(a3 !=f1)=true:=bne_iff_ne.mpr f4;(first|rw [e5]|(simp only [i64_w,i32_w];rw [e5])|skip);have H':=zqm H;clear H
    go_wp2
    go_meet
    case rel=>exact⟨_,(true),(by first|rfl|(simp;done)|(simp [*];done)),H',⟨by first|omega|exact Nat.le_refl _⟩,⟨zq278⟩,⟨zq281⟩,⟨zq16⟩,⟨zq3⟩⟩
  case rest=>
   clear l4;(try clear c1);(try clear c2);(try clear i7);(try clear i8);(try clear p2);(try clear c3);(try clear c4);(try clear c8);(try clear f4);(try clear e5);(try clear h8);(try clear f5);(try clear h9);(try clear i0);(try clear f6);(try clear i1);(try clear i2);(try clear g8);(try clear g9);(try clear h2);(try clear h3);(try clear h0);(try clear h1);(try clear h4);(try clear h5);obtain⟨kq,f9,rfl,HA,o1,HO_817000,HO_817001,a1,HB⟩:=hcut
   cases kq with
   |zero=>exact absurd HA.out (by simp [laws_FnPentagonOf.j0])
   |succ e7=>
    have H:=HA.out;clear HA;simp only [laws_FnPentagonOf.j0] at H
    by_cases i4:f9=true
    ·subst i4;(have H1:(some false)=some r:=by rw [if_pos rfl] at H;exact H);clear H;have H:=H1;clear H1;obtain rfl:=Option.some.inj H
     go_wp2
     go_ret
     exact⟨zq11,zq3⟩
    ·replace i4:=Bool.eq_false_iff.mpr i4;subst i4;(have H1:((spec_LogicOk.f e7 a0 a2).bind fun i3=>(if i3=true then((impl_ModularOk.f a0 a2).bind fun e6=>(laws_FnPentagonOf.j1 e7 a3 a4 a5 b2 (b2 !=(!e6)) a0 a2)) else(laws_FnPentagonOf.j1 e7 a3 a4 a5 b2 (b2 !=false) a0 a2)))=some r:=by rw [if_neg (show¬(false=true) by decide)] at H;exact H);clear H;have H:=H1;clear H1;have j2:=zqm H;clear H
     go_upto_region 8 with (fail)
     go_cut [57] (fun p1 wc=> ∃(kq:Nat) (f7:Bool),p1= .bool f7∧Aside0 (laws_FnPentagonOf.j1 kq a3 a4 a5 b2 f7 a0 a2=some r)∧Aside0 (kq≤e7)∧Aside0 (Kd.S (Kd.slice 3 (Kd.int .i64)) 28 wc w.heap.size (fun k_=>some k_≠((.slice b0 a2.length a9):Value).ownBlock) (.slice c7 a0.length b5) a0)∧Aside0 (Kd.Q (Kd.int .i64) 3 wc w.heap.size (fun _=>True) (.slice b0 a2.length a9) a2)∧Aside0 (wc.heap[a8]? =some (.cells #[(.slice c7 a0.length b5),(.slice b0 a2.length a9)] 30 (0,0)))∧Aside0 (Below w.heap.size w wc))
     case first=>
      have H:=j2.out;clear j2;replace H:=Option.bind_eq_some_iff.mp H;obtain⟨i3,l5,H⟩:=H;replace H:(if i3=true then((impl_ModularOk.f a0 a2).bind fun e6=>(laws_FnPentagonOf.j1 e7 a3 a4 a5 b2 (b2 !=(!e6)) a0 a2)) else(laws_FnPentagonOf.j1 e7 a3 a4 a5 b2 (b2 !=false) a0 a2))=some r:=H;have o2:=zqm l5;clear l5
      by_cases i5:i3=true
      ·subst i5;(have H1:((impl_ModularOk.f a0 a2).bind fun e6=>(laws_FnPentagonOf.j1 e7 a3 a4 a5 b2 (b2 !=(!e6)) a0 a2))=some r:=by rw [if_pos rfl] at H;exact H);clear H;have H:=H1;clear H1;replace H:=Option.bind_eq_some_iff.mp H;obtain⟨e6,l6,H⟩:=H;replace H:(laws_FnPentagonOf.j1 e7 a3 a4 a5 b2 (b2 !=(!e6)) a0 a2)=some r:=H;have p3:=zqm l6;clear l6;have H':=zqm H;clear H;have k1:wc.cell? ⟨a8,0,none⟩=some (.slice c7 a0.length b5):=(blk_cell a1.out 0).trans rfl;have k2:wc.cell? ⟨a8,1,none⟩=some (.slice b0 a2.length a9):=(blk_cell a1.out 1).trans rfl;have k3:=blk_frozen a1.out 0;have k4:=blk_frozen a1.out 1
       go_wp2_with (first|((with_reducible refine gate_callee (f:=42) rfl ?_);refine goesL_ (some 51) rfl rfl Try.func42 zqk rfl #[.agg #[.slice c7 a0.length b5,.slice b0 a2.length a9]] rfl zq1 ?_;(with_reducible refine(spec_LogicOk.calls e7 _ _ a0 _ _ a2 true _ ?side1 ?side2 ?side3 ?side4 o2.out).mono ?_);(case side1=> exact zq79);(case side2=>exact(Kd.S_reads' HO_817000.out).2.1);(case side3=> exact zq78);(case side4=>exact(Kd.Q_reads' HO_817001.out).2.1);rintro e o3 ⟨rfl,hb⟩;refine⟨_,rfl,?_⟩;replace HO_817000:=zqm (Kd.S_below zq111 hb);replace HO_817001:=zqm (Kd.Q_below zq110 hb);replace a1:=zqm (blk_below (g:=a8) (o:= .cells #[.slice c7 a0.length b5,.slice b0 a2.length a9] 30 (0,0)) zq16 hb);replace HB:=zqm (below_step zq3 hb);clear hb;have k5:o3.cell? ⟨a8,0,none⟩=some (.slice c7 a0.length b5):=(blk_cell a1.out 0).trans rfl;have k6:o3.cell? ⟨a8,1,none⟩=some (.slice b0 a2.length a9):=(blk_cell a1.out 1).trans rfl;have k7:=blk_frozen a1.out 0;have k8:=blk_frozen a1.out 1)|(go_at_call 38;(with_reducible refine(impl_ModularOk.calls _ _ a0 _ _ a2 e6 _ ?side1 ?side2 ?side3 ?side4 p3.out).mono ?_);(case side1=> exact zq79);(case side2=>exact(Kd.S_reads' HO_817000.out).2.1);(case side3=> exact zq78);(case side4=>exact(Kd.Q_reads' HO_817001.out).2.1);rintro e q6 ⟨rfl,hb⟩;replace HO_817000:=zqm (Kd.S_below zq111 hb);replace HO_817001:=zqm (Kd.Q_below zq110 hb);replace a1:=zqm (blk_below (g:=a8) (o:= .cells #[.slice c7 a0.length b5,.slice b0 a2.length a9] 30 (0,0)) zq16 hb);replace HB:=zqm (below_step zq3 hb);clear hb))
       go_meet
       case rel=>exact⟨_,((b2 !=(!e6))),(by first|rfl|(simp;done)|(simp [*];done)),H',⟨by have:=o1.out;first|omega|exact Nat.le_refl _⟩,⟨zq111⟩,⟨zq110⟩,⟨zq16⟩,⟨zq3⟩⟩
      ·replace i5:=Bool.eq_false_iff.mpr i5;subst i5;(have H1:(laws_FnPentagonOf.j1 e7 a3 a4 a5 b2 (b2 !=false) a0 a2)=some r:=by rw [if_neg (show¬(false=true) by decide)] at H;exact H);clear H;have H:=H1;clear H1;have H':=zqm H;clear H;have k9:wc.cell? ⟨a8,0,none⟩=some (.slice c7 a0.length b5):=(blk_cell a1.out 0).trans rfl;have l1:wc.cell? ⟨a8,1,none⟩=some (.slice b0 a2.length a9):=(blk_cell a1.out 1).trans rfl;have l2:=blk_frozen a1.out 0;have l3:=blk_frozen a1.out 1
       go_wp2_with (first|((with_reducible refine gate_callee (f:=42) rfl ?_);refine goesL_ (some 51) rfl rfl Try.func42 zqk rfl #[.agg #[.slice c7 a0.length b5,.slice b0 a2.length a9]] rfl zq1 ?_;(with_reducible refine(spec_LogicOk.calls e7 _ _ a0 _ _ a2 false _ ?side1 ?side2 ?side3 ?side4 o2.out).mono ?_);(case side1=> exact zq79);(case side2=>exact(Kd.S_reads' HO_817000.out).2.1);(case side3=> exact zq78);(case side4=>exact(Kd.Q_reads' HO_817001.out).2.1);rintro e q7 ⟨rfl,hb⟩;refine⟨_,rfl,?_⟩;replace HO_817000:=zqm (Kd.S_below zq111 hb);replace HO_817001:=zqm (Kd.Q_below zq110 hb);replace a1:=zqm (blk_below (g:=a8) (o:= .cells #[.slice c7 a0.length b5,.slice b0 a2.length a9] 30 (0,0)) zq16 hb);replace HB:=zqm (below_step zq3 hb);clear hb))
       go_meet
       case rel=>exact⟨_,((b2 !=false)),(by first|rfl|(simp;done)|(simp [*];done)),H',⟨by have:=o1.out;first|omega|exact Nat.le_refl _⟩,⟨zq111⟩,⟨zq110⟩,⟨zq16⟩,⟨zq3⟩⟩
     case rest=>
      clear j2;(try clear c1);(try clear c2);(try clear i7);(try clear i8);(try clear p2);(try clear c3);(try clear c4);(try clear c8);(try clear f4);(try clear e5);(try clear h8);(try clear f5);(try clear h9);(try clear i0);(try clear f6);(try clear i1);(try clear i2);(try clear i4);(try clear i5);(try clear g8);(try clear g9);(try clear h2);(try clear h3);(try clear k1);(try clear k2);(try clear k5);(try clear k6);(try clear k9);(try clear l1);(try clear h0);(try clear h1);(try clear h4);(try clear h5);(try clear k3);(try clear k4);(try clear k7);(try clear k8);(try clear l2);(try clear l3);(try clear p2);obtain⟨kq,f7,rfl,HA,q4,HO_817000,HO_817001,a1,HB⟩:=hcut
      cases kq with
      |zero=>exact absurd HA.out (by simp [laws_FnPentagonOf.j1])
      |succ j3=>
       have H:=HA.out;clear HA;simp only [laws_FnPentagonOf.j1] at H
       by_cases j4:f7=true
       ·subst j4;(have H1:(some false)=some r:=by rw [if_pos rfl] at H;exact H);clear H;have H:=H1;clear H1;obtain rfl:=Option.some.inj H
        go_wp2
        go_ret
        exact⟨zq11,zq3⟩
       ·replace j4:=Bool.eq_false_iff.mpr j4;subst j4;(have H1:(if b2=true then(if a3=a4 then(some false) else(if 0≤a3 then(if a3<(a0.length:Int) then(if 0≤a4 then(if a4<((rd_L3 a0 a3).length:Int) then(if(rd (rd_L3 a0 a3) a4)=1 then((impl_AndOf.f a0 a2 a3 a5).bind fun d6=>((impl_AndOf.f a0 a2 a4 a5).bind fun d3=>(if d6=d3 then((impl_OrOf.f a0 a2 a3 a5).bind fun d9=>((impl_OrOf.f a0 a2 a4 a5).bind fun d8=>(some (d9==d8)))) else(some false)))) else(some false)) else(none)) else(none)) else(none)) else(none))) else(if a3=(-1) then(if a5=(-1) then(if a4=(-1) then((laws_alive.f j3).bind fun f8=>(some f8)) else(some false)) else(some false)) else(some false)))=some r:=by rw [if_neg (show¬(false=true) by decide)] at H;exact H);clear H;have H:=H1;clear H1
        by_cases j5:b2=true
        ·subst j5;(have H1:(if a3=a4 then(some false) else(if 0≤a3 then(if a3<(a0.length:Int) then(if 0≤a4 then(if a4<((rd_L3 a0 a3).length:Int) then(if(rd (rd_L3 a0 a3) a4)=1 then((impl_AndOf.f a0 a2 a3 a5).bind fun d6=>((impl_AndOf.f a0 a2 a4 a5).bind fun d3=>(if d6=d3 then((impl_OrOf.f a0 a2 a3 a5).bind fun d9=>((impl_OrOf.f a0 a2 a4 a5).bind fun d8=>(some (d9==d8)))) else(some false)))) else(some false)) else(none)) else(none)) else(none)) else(none)))=some r:=by rw [if_pos rfl] at H;exact H);clear H;have H:=H1;clear H1
         by_cases g0:a3=a4
         ·rw [if_pos g0] at H;have m2:(a3==a4)=true:=beq_iff_eq.mpr g0;have m3:(a3 !=a4)=false:=bne_eq_false_iff_eq.mpr g0;clear g0;obtain rfl:=Option.some.inj H;(try go_wp2);replace HO_817000:=zqm (Kd.S_drew HO_817000.out);replace HO_817001:=zqm (Kd.Q_drew HO_817001.out);replace a1:=zqm (blk_drew a1.out);replace HB:=zqm (below_drew1 HB.out);refine start_ (n:=37) (S:=fun w'=>True) (ds:= []) (zqb 37 0) zqk rfl rfl trivial (fun hHeld=>?_);refine with_tabW laws_FnPentagonOf.tab12 laws_FnPentagonOf.bits12 (fun HT_ HW_=>?_);generalize wc.drew=q8 at HO_817000 HO_817001 a1 HB hHeld ⊢;refine pure_ (i:=0) (N:=some 73) (v:=?_) (a':=?_) (zqb 37 1) rfl rfl (any_of HT_.out zqk) (fun _ _ _ h=>h) (Or.inl ⟨by rfl,?_⟩) ?_ ?_;rotate_left
          ·exact zqt
          rotate_left
          ·exact zqs
          refine pure_ (i:=1) (N:=some 74) (v:=?_) (a':=?_) (zqb 37 3) rfl rfl (any_of HT_.out zqk) (fun _ _ _ h=>h) (Or.inl ⟨by rfl,?_⟩) ?_ ?_;rotate_left
          ·exact zqt
          rotate_left
          ·exact zqs
          refine pure_ (i:=2) (N:=some 75) (v:=?_) (a':=?_) (zqb 37 7) rfl rfl (any_of HT_.out zqk) (fun _ _ _ h=>h) (Or.inl ⟨by rfl,?_⟩) ?_ ?_;rotate_left
          ·exact zqt
          rotate_left
          ·exact zqs
          refine pure_ (i:=3) (N:=some 76) (v:=?_) (a':=?_) (zqb 37 15) rfl rfl (any_of HT_.out zqk) (fun _ _ _ h=>h) (Or.inl ⟨by rfl,?_⟩) ?_ ?_;rotate_left
          ·exact zqt
          rotate_left
          ·exact zqs
          refine pure_ (i:=4) (N:=some 77) (v:=undef) (a':=?_) (zqb 37 31) rfl rfl (any_of HT_.out zqk) (fun _ _ _ h=>h) (Or.inr ⟨by rfl,rfl⟩) ?_ ?_;rotate_left
          ·exact zqs
          refine pure_ (i:=5) (N:=some 78) (v:=undef) (a':=?_) (zqb 37 63) rfl rfl (any_of HT_.out zqk) (fun _ _ _ h=>h) (Or.inr ⟨by rfl,rfl⟩) ?_ ?_;rotate_left
          ·exact zqs
          refine pure_ (i:=6) (N:=some 79) (v:=undef) (a':=?_) (zqb 37 127) rfl rfl (any_of HT_.out zqk) (fun _ _ _ h=>h) (Or.inr ⟨by rfl,rfl⟩) ?_ ?_;rotate_left
          ·exact zqs
          refine pure_ (i:=7) (N:=some 80) (v:=undef) (a':=?_) (zqb 37 255) rfl rfl (any_of HT_.out zqk) (fun _ _ _ h=>h) (Or.inr ⟨by rfl,rfl⟩) ?_ ?_;rotate_left
          ·exact zqs
          refine pure_ (i:=8) (N:=some 81) (v:=undef) (a':=?_) (zqb 37 511) rfl rfl (any_of HT_.out zqk) (fun _ _ _ h=>h) (Or.inr ⟨by rfl,rfl⟩) ?_ ?_;rotate_left
          ·exact zqs
          refine pure_ (i:=9) (N:=some 82) (v:=undef) (a':=?_) (zqb 37 1023) rfl rfl (any_of HT_.out zqk) (fun _ _ _ h=>h) (Or.inr ⟨by rfl,rfl⟩) ?_ ?_;rotate_left
          ·exact zqs
          refine pure_ (i:=10) (N:=some 83) (v:=undef) (a':=?_) (zqb 37 2047) rfl rfl (any_of HT_.out zqk) (fun _ _ _ h=>h) (Or.inr ⟨by rfl,rfl⟩) ?_ ?_;rotate_left
          ·exact zqs
          refine pure_ (i:=11) (N:=some 84) (v:=undef) (a':=?_) (zqb 37 4095) rfl rfl (any_of HT_.out zqk) (fun _ _ _ h=>h) (Or.inr ⟨by rfl,rfl⟩) ?_ ?_;rotate_left
          ·exact zqs
          refine pure_ (i:=12) (N:=some 85) (v:=undef) (a':=?_) (zqb 37 8191) rfl rfl (any_of HT_.out zqk) (fun _ _ _ h=>h) (Or.inr ⟨by rfl,rfl⟩) ?_ ?_;rotate_left
          ·exact zqs
          refine pure_ (i:=13) (N:=some 86) (v:=?_) (a':=?_) (zqb 37 16383) rfl rfl (any_of HT_.out zqk) (fun _ _ _ h=>h) (Or.inl ⟨by rfl,?_⟩) ?_ ?_;rotate_left
          ·exact zqt
          rotate_left
          ·exact zqs
          refine pure_ (i:=14) (N:=some 87) (v:=?_) (a':=?_) (zqb 37 32767) rfl rfl (any_of HT_.out zqk) (fun _ _ _ h=>h) (Or.inl ⟨by rfl,?_⟩) ?_ ?_;rotate_left
          ·exact zqt
          rotate_left
          ·exact zqs
          refine pure_ (i:=15) (N:=some 88) (v:=undef) (a':=?_) (zqb 37 65535) rfl rfl (any_of HT_.out zqk) (fun _ _ _ h=>h) (Or.inr ⟨by rfl,rfl⟩) ?_ ?_;rotate_left
          ·exact zqs
          refine pure_ (i:=16) (N:=some 89) (v:=undef) (a':=?_) (zqb 37 131071) rfl rfl (any_of HT_.out zqk) (fun _ _ _ h=>h) (Or.inr ⟨by rfl,rfl⟩) ?_ ?_;rotate_left
          ·exact zqs
          refine pure_ (i:=17) (N:=some 90) (v:=undef) (a':=?_) (zqb 37 262143) rfl rfl (any_of HT_.out zqk) (fun _ _ _ h=>h) (Or.inr ⟨by rfl,rfl⟩) ?_ ?_;rotate_left
          ·exact zqs
          refine pure_ (i:=18) (N:=some 91) (v:=undef) (a':=?_) (zqb 37 524287) rfl rfl (any_of HT_.out zqk) (fun _ _ _ h=>h) (Or.inr ⟨by rfl,rfl⟩) ?_ ?_;rotate_left
          ·exact zqs
          refine pure_ (i:=19) (N:=some 92) (v:=undef) (a':=?_) (zqb 37 1048575) rfl rfl (any_of HT_.out zqk) (fun _ _ _ h=>h) (Or.inr ⟨by rfl,rfl⟩) ?_ ?_;rotate_left
          ·exact zqs
          refine pure_ (i:=20) (N:=some 93) (v:=undef) (a':=?_) (zqb 37 2097151) rfl rfl (any_of HT_.out zqk) (fun _ _ _ h=>h) (Or.inr ⟨by rfl,rfl⟩) ?_ ?_;rotate_left
          ·exact zqs
          refine pure_ (i:=21) (N:=some 94) (v:=undef) (a':=?_) (zqb 37 4194303) rfl rfl (any_of HT_.out zqk) (fun _ _ _ h=>h) (Or.inr ⟨by rfl,rfl⟩) ?_ ?_;rotate_left
          ·exact zqs
          refine pure_ (i:=22) (N:=some 95) (v:=undef) (a':=?_) (zqb 37 8388607) rfl rfl (any_of HT_.out zqk) (fun _ _ _ h=>h) (Or.inr ⟨by rfl,rfl⟩) ?_ ?_;rotate_left
          ·exact zqs
          refine pure_ (i:=23) (N:=some 96) (v:=undef) (a':=?_) (zqb 37 16777215) rfl rfl (any_of HT_.out zqk) (fun _ _ _ h=>h) (Or.inr ⟨by rfl,rfl⟩) ?_ ?_;rotate_left
          ·exact zqs
          refine pure_ (i:=24) (N:=some 97) (v:=?_) (a':=?_) (zqb 37 33554431) rfl rfl (any_of HT_.out zqk) (fun _ _ _ h=>h) (Or.inl ⟨by rfl,?_⟩) ?_ ?_;rotate_left
          ·exact zqt
          rotate_left
          ·exact zqs
          refine pure_ (i:=25) (N:=some 98) (v:=?_) (a':=?_) (zqb 37 67108863) rfl rfl (any_of HT_.out zqk) (fun _ _ _ h=>h) (Or.inl ⟨by rfl,?_⟩) ?_ ?_;rotate_left
          ·exact zqt
          rotate_left
          ·exact zqs
          refine pure_ (i:=26) (N:=some 99) (v:=undef) (a':=?_) (zqb 37 134217727) rfl rfl (any_of HT_.out zqk) (fun _ _ _ h=>h) (Or.inr ⟨by rfl,rfl⟩) ?_ ?_;rotate_left
          ·exact zqs
          refine pure_ (i:=27) (N:=some 100) (v:=undef) (a':=?_) (zqb 37 268435455) rfl rfl (any_of HT_.out zqk) (fun _ _ _ h=>h) (Or.inr ⟨by rfl,rfl⟩) ?_ ?_;rotate_left
          ·exact zqs
          refine pure_ (i:=28) (N:=some 101) (v:=undef) (a':=?_) (zqb 37 536870911) rfl rfl (any_of HT_.out zqk) (fun _ _ _ h=>h) (Or.inr ⟨by rfl,rfl⟩) ?_ ?_;rotate_left
          ·exact zqs
          refine pure_ (i:=29) (N:=some 102) (v:=undef) (a':=?_) (zqb 37 1073741823) rfl rfl (any_of HT_.out zqk) (fun _ _ _ h=>h) (Or.inr ⟨by rfl,rfl⟩) ?_ ?_;rotate_left
          ·exact zqs
          refine pure_ (i:=30) (N:=some 103) (v:=undef) (a':=?_) (zqb 37 2147483647) rfl rfl (any_of HT_.out zqk) (fun _ _ _ h=>h) (Or.inr ⟨by rfl,rfl⟩) ?_ ?_;rotate_left
          ·exact zqs
          refine pure_ (i:=31) (N:=some 104) (v:=undef) (a':=?_) (zqb 37 4294967295) rfl rfl (any_of HT_.out zqk) (fun _ _ _ h=>h) (Or.inr ⟨by rfl,rfl⟩) ?_ ?_;rotate_left
          ·exact zqs
          refine pure_ (i:=32) (N:=some 105) (v:=undef) (a':=?_) (zqb 37 8589934591) rfl rfl (any_of HT_.out zqk) (fun _ _ _ h=>h) (Or.inr ⟨by rfl,rfl⟩) ?_ ?_;rotate_left
          ·exact zqs
          refine pure_ (i:=33) (N:=some 106) (v:=undef) (a':=?_) (zqb 37 17179869183) rfl rfl (any_of HT_.out zqk) (fun _ _ _ h=>h) (Or.inr ⟨by rfl,rfl⟩) ?_ ?_;rotate_left
          ·exact zqs
          refine pure_ (i:=34) (N:=some 107) (v:=undef) (a':=?_) (zqb 37 34359738367) rfl rfl (any_of HT_.out zqk) (fun _ _ _ h=>h) (Or.inr ⟨by rfl,rfl⟩) ?_ ?_;rotate_left
          ·exact zqs
          refine pure_ (i:=35) (N:=some 108) (v:=?_) (a':=?_) (zqb 37 68719476735) rfl rfl (any_of HT_.out zqk) (fun _ _ _ h=>h) (Or.inl ⟨by rfl,?_⟩) ?_ ?_;rotate_left
          ·exact zqt
          rotate_left
          ·exact zqs
          refine pure_ (i:=36) (N:=some 2) (v:=?_) (a':=?_) (zqb 37 137438953471) rfl rfl (any_of HT_.out zqk) (fun _ _ _ h=>h) (Or.inl ⟨by rfl,?_⟩) ?_ ?_;rotate_left
          ·exact zqt
          rotate_left
          ·exact zqs
          refine done_ (done_of HT_.out zqk) ?_;try go_wp2
          go_ret
          exact⟨zq11,zq3⟩
         ·rw [if_neg g0] at H;have m2:(a3==a4)=false:=beq_eq_false_iff_ne.mpr g0;have m3:(a3 !=a4)=true:=bne_iff_ne.mpr g0
          by_cases j6:0≤a3
          ·rw [if_pos j6] at H;have p8:decide (0≤a3)=true:=decide_eq_true j6;clear j6
           by_cases j7:a3<(a0.length:Int)
           ·rw [if_pos j7] at H;have p9:decide (a3<(a0.length:Int))=true:=decide_eq_true j7;clear j7
            by_cases j8:0≤a4
            ·rw [if_pos j8] at H;have q0:decide (0≤a4)=true:=decide_eq_true j8;clear j8
             by_cases j9:a4<((rd_L3 a0 a3).length:Int)
             ·rw [if_pos j9] at H;have q1:decide (a4<((rd_L3 a0 a3).length:Int))=true:=decide_eq_true j9;clear j9
              by_cases g1:(rd (rd_L3 a0 a3) a4)=1
              ·rw [if_pos g1] at H;have m4:((rd (rd_L3 a0 a3) a4)==1)=true:=beq_iff_eq.mpr g1;have m5:((rd (rd_L3 a0 a3) a4) !=1)=false:=bne_eq_false_iff_eq.mpr g1;clear g1;replace H:=Option.bind_eq_some_iff.mp H;obtain⟨d6,l7,H⟩:=H;replace H:((impl_AndOf.f a0 a2 a4 a5).bind fun d3=>(if d6=d3 then((impl_OrOf.f a0 a2 a3 a5).bind fun d9=>((impl_OrOf.f a0 a2 a4 a5).bind fun d8=>(some (d9==d8)))) else(some false)))=some r:=H;have o4:=zqm l7;clear l7;replace H:=Option.bind_eq_some_iff.mp H;obtain⟨d3,l8,H⟩:=H;replace H:(if d6=d3 then((impl_OrOf.f a0 a2 a3 a5).bind fun d9=>((impl_OrOf.f a0 a2 a4 a5).bind fun d8=>(some (d9==d8)))) else(some false))=some r:=H;have o5:=zqm l8;clear l8
               by_cases g2:d6=d3
               ·rw [if_pos g2] at H;have m6:(d6==d3)=true:=beq_iff_eq.mpr g2;have m7:(d6 !=d3)=false:=bne_eq_false_iff_eq.mpr g2;clear g2;replace H:=Option.bind_eq_some_iff.mp H;obtain⟨d9,l9,H⟩:=H;replace H:((impl_OrOf.f a0 a2 a4 a5).bind fun d8=>(some (d9==d8)))=some r:=H;have p4:=zqm l9;clear l9;replace H:=Option.bind_eq_some_iff.mp H;obtain⟨d8,m0,H⟩:=H;replace H:(some (d9==d8))=some r:=H;have p5:=zqm m0;clear m0;obtain rfl:=Option.some.inj H;(try go_wp2);replace HO_817000:=zqm (Kd.S_drew HO_817000.out);replace HO_817001:=zqm (Kd.Q_drew HO_817001.out);replace a1:=zqm (blk_drew a1.out);replace HB:=zqm (below_drew1 HB.out);have d4:0≤(a3:Int):=zqo;have d5:a3<(a0.length:Int):=zqo;obtain⟨b6,i6,e8,g3,b7,d0,d1⟩:=at_L3 (Kd.S_reads' HO_817000.out).2.2 a3 d4 d5
                cases g3
                obtain⟨k0,e9,f0,d7⟩:=Kd.S_get HO_817000.out [] a3 d4 zq382;obtain⟨h6,rfl,b8⟩:=f0;have b3:=d7 0 _ rfl;rw [Nat.add_zero,show ((Kd.slice 3 (Kd.int .i64))).sz=1 from rfl,Nat.mul_one] at b3;replace b3:=Option.some.inj (b3.symm.trans b7);rw [b3] at b8;have b4:=zqm (show Kd.R (Kd.int .i64) 3 _ _ _ _ (rd_L3 a0 a3) from b8);clear b3 b8 d7 e9;have a7:=zqm d1;have h7:=zqm d0;clear d1 d0;replace d4:=eq_true d4;replace d5:=eq_true d5;have e0:0≤(a4:Int):=zqo;have e1:a4<((rd_L3 a0 a3).length:Int):=zqo;obtain⟨e4,g4,d2⟩:=Kd.at_int zq77 a4 e0 e1
                cases g4
                replace e0:=eq_true e0;replace e1:=eq_true e1;refine start_ (n:=37) (S:=fun w'=>w'.cell? ⟨a8,0,none⟩=some (.slice (some b6) a0.length b5)∧w'.cell? ⟨a8,1,none⟩=some (.slice b0 a2.length a9)∧w'.cell? (b6.add (a3).toNat)=some (.slice (some e4) (rd_L3 a0 a3).length e8)∧w'.cell? (e4.add (a4).toNat)=some (.int .i64 (rd (rd_L3 a0 a3) a4))) (ds:= []) (zqb 37 0) zqk rfl rfl ⟨(blk_cell a1.out 0).trans rfl,(blk_cell a1.out 1).trans rfl,b7,d2⟩ (fun hHeld=>?_);refine with_tabW laws_FnPentagonOf.tab12 laws_FnPentagonOf.bits12 (fun HT_ HW_=>?_);generalize wc.drew=q9 at HO_817000 HO_817001 a1 HB b4 a7 b7 d2 hHeld ⊢;refine pure_ (i:=0) (N:=some 73) (v:=?_) (a':=?_) (zqb 37 1) rfl rfl (any_of HT_.out zqk) (fun _ _ _ h=>h) (Or.inl ⟨by rfl,?_⟩) ?_ ?_;rotate_left
                ·exact zqt
                rotate_left
                ·exact zqs
                refine pure_ (i:=1) (N:=some 74) (v:=?_) (a':=?_) (zqb 37 3) rfl rfl (any_of HT_.out zqk) (fun _ _ _ h=>h) (Or.inl ⟨by rfl,?_⟩) ?_ ?_;rotate_left
                ·exact zqt
                rotate_left
                ·exact zqs
                refine pure_ (i:=2) (N:=some 75) (v:=?_) (a':=?_) (zqb 37 7) rfl rfl (any_of HT_.out zqk) (fun _ _ _ h=>h) (Or.inl ⟨by rfl,?_⟩) ?_ ?_;rotate_left
                ·exact zqt
                rotate_left
                ·exact zqs
                refine pure_ (i:=3) (N:=some 76) (v:=?_) (a':=?_) (zqb 37 15) rfl rfl (any_of HT_.out zqk) (fun _ _ _ h=>h) (Or.inl ⟨by rfl,?_⟩) ?_ ?_;rotate_left
                ·exact zqt
                rotate_left
                ·exact zqs
                refine pure_ (i:=4) (N:=some 77) (v:=?_) (a':=?_) (zqb 37 31) rfl rfl (any_of HT_.out zqk) (fun _ _ _ h=>h) (Or.inl ⟨by rfl,?_⟩) ?_ ?_;rotate_left
                ·exact zqt
                rotate_left
                ·exact zqs
                refine pure_ (i:=6) (N:=some 79) (v:=?_) (a':=?_) (zqb 37 95) rfl rfl (any_of HT_.out zqk) (fun _ _ _ h=>h) (Or.inl ⟨by rfl,?_⟩) ?_ ?_;rotate_left
                ·exact zqt
                rotate_left
                ·exact zqs
                refine pure_ (i:=9) (N:=some 82) (v:=?_) (a':=?_) (zqb 37 607) rfl rfl (any_of HT_.out zqk) (fun _ _ _ h=>h) (Or.inl ⟨by rfl,?_⟩) ?_ ?_;rotate_left
                ·exact zqt
                rotate_left
                ·exact zqs
                refine take_ (i:=5) (N:=some 78) (v:=?_) (a':=?_) (zqb 37 639) rfl rfl (take_ofW HT_.out HW_.out zqk) (fun _ _ _ h=>h) (Or.inl ⟨by rfl,?_⟩) hHeld ?_ ?_;rotate_left
                ·rintro w' ⟨s0,s1,s2,s3⟩;go_simp;with_reducible rfl
                rotate_left
                ·exact zqs
                refine pure_ (i:=7) (N:=some 80) (v:=?_) (a':=?_) (zqb 37 767) rfl rfl (any_of HT_.out zqk) (fun _ _ _ h=>h) (Or.inl ⟨by rfl,?_⟩) ?_ ?_;rotate_left
                ·exact zqt
                rotate_left
                ·exact zqs
                refine take_ (i:=8) (N:=some 81) (v:=?_) (a':=?_) (zqb 37 1023) rfl rfl (take_ofW HT_.out HW_.out zqk) (fun _ _ _ h=>h) (Or.inl ⟨by rfl,?_⟩) hHeld ?_ ?_;rotate_left
                ·rintro w' ⟨s0,s1,s2,s3⟩;go_simp;with_reducible rfl
                rotate_left
                ·exact zqs
                refine pure_ (i:=10) (N:=some 83) (v:=?_) (a':=?_) (zqb 37 2047) rfl rfl (any_of HT_.out zqk) (fun _ _ _ h=>h) (Or.inl ⟨by rfl,?_⟩) ?_ ?_;rotate_left
                ·exact zqt
                rotate_left
                ·exact zqs
                refine take_ (i:=11) (N:=some 84) (v:=?_) (a':=?_) (zqb 37 4095) rfl rfl (take_ofW HT_.out HW_.out zqk) (fun _ _ _ h=>h) (Or.inl ⟨by rfl,?_⟩) hHeld ?_ ?_;rotate_left
                ·rintro w' ⟨s0,s1,s2,s3⟩;go_simp;with_reducible rfl
                rotate_left
                ·exact zqs
                refine pure_ (i:=12) (N:=some 85) (v:=?_) (a':=?_) (zqb 37 8191) rfl rfl (any_of HT_.out zqk) (fun _ _ _ h=>h) (Or.inl ⟨by rfl,?_⟩) ?_ ?_;rotate_left
                ·exact zqt
                rotate_left
                ·exact zqs
                refine pure_ (i:=13) (N:=some 86) (v:=?_) (a':=?_) (zqb 37 16383) rfl rfl (any_of HT_.out zqk) (fun _ _ _ h=>h) (Or.inl ⟨by rfl,?_⟩) ?_ ?_;rotate_left
                ·exact zqt
                rotate_left
                ·exact zqs
                refine pure_ (i:=14) (N:=some 87) (v:=?_) (a':=?_) (zqb 37 32767) rfl rfl (any_of HT_.out zqk) (fun _ _ _ h=>h) (Or.inl ⟨by rfl,?_⟩) ?_ ?_;rotate_left
                ·exact zqt
                rotate_left
                ·exact zqs
                refine pure_ (i:=16) (N:=some 89) (v:=?_) (a':=?_) (zqb 37 98303) rfl rfl (any_of HT_.out zqk) (fun _ _ _ h=>h) (Or.inl ⟨by rfl,?_⟩) ?_ ?_;rotate_left
                ·exact zqt
                rotate_left
                ·exact zqs
                refine pure_ (i:=17) (N:=some 90) (v:=?_) (a':=?_) (zqb 37 229375) rfl rfl (any_of HT_.out zqk) (fun _ _ _ h=>h) (Or.inl ⟨by rfl,?_⟩) ?_ ?_;rotate_left
                ·exact zqt
                rotate_left
                ·exact zqs
                refine pure_ (i:=20) (N:=some 93) (v:=?_) (a':=?_) (zqb 37 1277951) rfl rfl (any_of HT_.out zqk) (fun _ _ _ h=>h) (Or.inl ⟨by rfl,?_⟩) ?_ ?_;rotate_left
                ·exact zqt
                rotate_left
                ·exact zqs
                refine pure_ (i:=21) (N:=some 94) (v:=?_) (a':=?_) (zqb 37 3375103) rfl rfl (any_of HT_.out zqk) (fun _ _ _ h=>h) (Or.inl ⟨by rfl,?_⟩) ?_ ?_;rotate_left
                ·exact zqt
                rotate_left
                ·exact zqs
                refine take_ (i:=15) (N:=some 88) (v:=?_) (a':=?_) (zqb 37 3407871) rfl rfl (take_ofW HT_.out HW_.out zqk) (fun _ _ _ h=>h) (Or.inl ⟨by rfl,?_⟩) hHeld ?_ ?_;rotate_left
                ·rintro w' ⟨s0,s1,s2,s3⟩;go_simp;with_reducible rfl
                rotate_left
                ·exact zqs
                refine take_ (i:=19) (N:=some 92) (v:=?_) (a':=?_) (zqb 37 3932159) rfl rfl (take_ofW HT_.out HW_.out zqk) (fun _ _ _ h=>h) (Or.inl ⟨by rfl,?_⟩) hHeld ?_ ?_;rotate_left
                ·rintro w' ⟨s0,s1,s2,s3⟩;go_simp;with_reducible rfl
                rotate_left
                ·exact zqs
                refine one_ (i:=18) (N:=some 91) (zqb 37 4194303) rfl rfl (one_of HT_.out zqk) (by decide) (fun K hK=>?_);refine goes_ Try.func23 zqk rfl #[.agg #[.slice (some b6) a0.length b5,.slice b0 a2.length a9],.int .i64 a3,.int .i64 a5] (by rfl) rfl rfl zq1 ?_;(with_reducible refine(impl_AndOf.calls _ _ a0 _ _ a2 a3 a5 d6 _ ?side1 ?side2 ?side3 ?side4 o4.out).mono ?_);(case side1=> exact zq79);(case side2=>exact(Kd.S_reads' HO_817000.out).2.1);(case side3=> exact zq78);(case side4=>exact(Kd.Q_reads' HO_817001.out).2.1);rintro e r0 ⟨rfl,hb⟩;have e2:=(hb.cell (World.block_lt_of_cell? _ _ (hHeld.2.2.1))).trans (hHeld.2.2.1);have e3:=(hb.cell (World.block_lt_of_cell? _ _ (hHeld.2.2.2))).trans (hHeld.2.2.2);refine⟨_,rfl,?_⟩;replace HO_817000:=zqm (Kd.S_below zq111 hb);replace HO_817001:=zqm (Kd.Q_below zq110 hb);replace b4:=zqm (Kd.R_below zq172 hb);replace a1:=zqm (blk_below (g:=a8) (o:= .cells #[.slice (some b6) a0.length b5,.slice b0 a2.length a9] 30 (0,0)) zq16 hb);replace a7:=zqm (Kd.C_below zq77 hb);replace HB:=zqm (below_step zq3 hb);clear hb;refine hK.out _ _ ⟨(blk_cell a1.out 0).trans rfl,(blk_cell a1.out 1).trans rfl,e2,e3⟩ (fun hHeld=>?_);clear hK K;refine norm_ (a':=?_) ?_ ?_;rotate_left
                ·show Act.put _ (some 91) _=_;exact zqs
                refine one_ (i:=22) (N:=some 95) (zqb 37 8388607) rfl rfl (one_of HT_.out zqk) (by decide) (fun K hK=>?_);refine goes_ Try.func23 zqk rfl #[.agg #[.slice (some b6) a0.length b5,.slice b0 a2.length a9],.int .i64 a4,.int .i64 a5] (by rfl) rfl rfl zq1 ?_;(with_reducible refine(impl_AndOf.calls _ _ a0 _ _ a2 a4 a5 d3 _ ?side1 ?side2 ?side3 ?side4 o5.out).mono ?_);(case side1=> exact zq79);(case side2=>exact(Kd.S_reads' HO_817000.out).2.1);(case side3=> exact zq78);(case side4=>exact(Kd.Q_reads' HO_817001.out).2.1);rintro e r1 ⟨rfl,hb⟩;have e2:=(hb.cell (World.block_lt_of_cell? _ _ (hHeld.2.2.1))).trans (hHeld.2.2.1);have e3:=(hb.cell (World.block_lt_of_cell? _ _ (hHeld.2.2.2))).trans (hHeld.2.2.2);refine⟨_,rfl,?_⟩;replace HO_817000:=zqm (Kd.S_below zq111 hb);replace HO_817001:=zqm (Kd.Q_below zq110 hb);replace b4:=zqm (Kd.R_below zq172 hb);replace a1:=zqm (blk_below (g:=a8) (o:= .cells #[.slice (some b6) a0.length b5,.slice b0 a2.length a9] 30 (0,0)) zq16 hb);replace a7:=zqm (Kd.C_below zq77 hb);replace HB:=zqm (below_step zq3 hb);clear hb;refine hK.out _ _ ⟨(blk_cell a1.out 0).trans rfl,(blk_cell a1.out 1).trans rfl,e2,e3⟩ (fun hHeld=>?_);clear hK K;refine norm_ (a':=?_) ?_ ?_;rotate_left
                ·show Act.put _ (some 95) _=_;exact zqs
                refine pure_ (i:=23) (N:=some 96) (v:=?_) (a':=?_) (zqb 37 16777215) rfl rfl (any_of HT_.out zqk) (fun _ _ _ h=>h) (Or.inl ⟨by rfl,?_⟩) ?_ ?_;rotate_left
                ·exact zqt
                rotate_left
                ·exact zqs
                refine pure_ (i:=24) (N:=some 97) (v:=?_) (a':=?_) (zqb 37 33554431) rfl rfl (any_of HT_.out zqk) (fun _ _ _ h=>h) (Or.inl ⟨by rfl,?_⟩) ?_ ?_;rotate_left
                ·exact zqt
                rotate_left
                ·exact zqs
                refine pure_ (i:=25) (N:=some 98) (v:=?_) (a':=?_) (zqb 37 67108863) rfl rfl (any_of HT_.out zqk) (fun _ _ _ h=>h) (Or.inl ⟨by rfl,?_⟩) ?_ ?_;rotate_left
                ·exact zqt
                rotate_left
                ·exact zqs
                refine pure_ (i:=27) (N:=some 100) (v:=?_) (a':=?_) (zqb 37 201326591) rfl rfl (any_of HT_.out zqk) (fun _ _ _ h=>h) (Or.inl ⟨by rfl,?_⟩) ?_ ?_;rotate_left
                ·exact zqt
                rotate_left
                ·exact zqs
                refine pure_ (i:=28) (N:=some 101) (v:=?_) (a':=?_) (zqb 37 469762047) rfl rfl (any_of HT_.out zqk) (fun _ _ _ h=>h) (Or.inl ⟨by rfl,?_⟩) ?_ ?_;rotate_left
                ·exact zqt
                rotate_left
                ·exact zqs
                refine pure_ (i:=31) (N:=some 104) (v:=?_) (a':=?_) (zqb 37 2617245695) rfl rfl (any_of HT_.out zqk) (fun _ _ _ h=>h) (Or.inl ⟨by rfl,?_⟩) ?_ ?_;rotate_left
                ·exact zqt
                rotate_left
                ·exact zqs
                refine pure_ (i:=32) (N:=some 105) (v:=?_) (a':=?_) (zqb 37 6912212991) rfl rfl (any_of HT_.out zqk) (fun _ _ _ h=>h) (Or.inl ⟨by rfl,?_⟩) ?_ ?_;rotate_left
                ·exact zqt
                rotate_left
                ·exact zqs
                refine take_ (i:=26) (N:=some 99) (v:=?_) (a':=?_) (zqb 37 6979321855) rfl rfl (take_ofW HT_.out HW_.out zqk) (fun _ _ _ h=>h) (Or.inl ⟨by rfl,?_⟩) hHeld ?_ ?_;rotate_left
                ·rintro w' ⟨s0,s1,s2,s3⟩;go_simp;with_reducible rfl
                rotate_left
                ·exact zqs
                refine take_ (i:=30) (N:=some 103) (v:=?_) (a':=?_) (zqb 37 8053063679) rfl rfl (take_ofW HT_.out HW_.out zqk) (fun _ _ _ h=>h) (Or.inl ⟨by rfl,?_⟩) hHeld ?_ ?_;rotate_left
                ·rintro w' ⟨s0,s1,s2,s3⟩;go_simp;with_reducible rfl
                rotate_left
                ·exact zqs
                refine one_ (i:=29) (N:=some 102) (zqb 37 8589934591) rfl rfl (one_of HT_.out zqk) (by decide) (fun K hK=>?_);refine goes_ Try.func43 zqk rfl #[.agg #[.slice (some b6) a0.length b5,.slice b0 a2.length a9],.int .i64 a3,.int .i64 a5] (by rfl) rfl rfl zq1 ?_;(with_reducible refine(impl_OrOf.calls _ _ a0 _ _ a2 a3 a5 d9 _ ?side1 ?side2 ?side3 ?side4 p4.out).mono ?_);(case side1=> exact zq79);(case side2=>exact(Kd.S_reads' HO_817000.out).2.1);(case side3=> exact zq78);(case side4=>exact(Kd.Q_reads' HO_817001.out).2.1);rintro e r2 ⟨rfl,hb⟩;have e2:=(hb.cell (World.block_lt_of_cell? _ _ (hHeld.2.2.1))).trans (hHeld.2.2.1);have e3:=(hb.cell (World.block_lt_of_cell? _ _ (hHeld.2.2.2))).trans (hHeld.2.2.2);refine⟨_,rfl,?_⟩;replace HO_817000:=zqm (Kd.S_below zq111 hb);replace HO_817001:=zqm (Kd.Q_below zq110 hb);replace b4:=zqm (Kd.R_below zq172 hb);replace a1:=zqm (blk_below (g:=a8) (o:= .cells #[.slice (some b6) a0.length b5,.slice b0 a2.length a9] 30 (0,0)) zq16 hb);replace a7:=zqm (Kd.C_below zq77 hb);replace HB:=zqm (below_step zq3 hb);clear hb;refine hK.out _ _ ⟨(blk_cell a1.out 0).trans rfl,(blk_cell a1.out 1).trans rfl,e2,e3⟩ (fun hHeld=>?_);clear hK K;refine norm_ (a':=?_) ?_ ?_;rotate_left
                ·show Act.put _ (some 102) _=_;exact zqs
                refine one_ (i:=33) (N:=some 106) (zqb 37 17179869183) rfl rfl (one_of HT_.out zqk) (by decide) (fun K hK=>?_);refine goes_ Try.func43 zqk rfl #[.agg #[.slice (some b6) a0.length b5,.slice b0 a2.length a9],.int .i64 a4,.int .i64 a5] (by rfl) rfl rfl zq1 ?_;(with_reducible refine(impl_OrOf.calls _ _ a0 _ _ a2 a4 a5 d8 _ ?side1 ?side2 ?side3 ?side4 p5.out).mono ?_);(case side1=> exact zq79);(case side2=>exact(Kd.S_reads' HO_817000.out).2.1);(case side3=> exact zq78);(case side4=>exact(Kd.Q_reads' HO_817001.out).2.1);rintro e r3 ⟨rfl,hb⟩;have e2:=(hb.cell (World.block_lt_of_cell? _ _ (hHeld.2.2.1))).trans (hHeld.2.2.1);have e3:=(hb.cell (World.block_lt_of_cell? _ _ (hHeld.2.2.2))).trans (hHeld.2.2.2);refine⟨_,rfl,?_⟩;replace HO_817000:=zqm (Kd.S_below zq111 hb);replace HO_817001:=zqm (Kd.Q_below zq110 hb);replace b4:=zqm (Kd.R_below zq172 hb);replace a1:=zqm (blk_below (g:=a8) (o:= .cells #[.slice (some b6) a0.length b5,.slice b0 a2.length a9] 30 (0,0)) zq16 hb);replace a7:=zqm (Kd.C_below zq77 hb);replace HB:=zqm (below_step zq3 hb);clear hb;refine hK.out _ _ ⟨(blk_cell a1.out 0).trans rfl,(blk_cell a1.out 1).trans rfl,e2,e3⟩ (fun hHeld=>?_);clear hK K;refine norm_ (a':=?_) ?_ ?_;rotate_left
                ·show Act.put _ (some 106) _=_;exact zqs
                refine pure_ (i:=34) (N:=some 107) (v:=?_) (a':=?_) (zqb 37 34359738367) rfl rfl (any_of HT_.out zqk) (fun _ _ _ h=>h) (Or.inl ⟨by rfl,?_⟩) ?_ ?_;rotate_left
                ·exact zqt
                rotate_left
                ·exact zqs
                refine pure_ (i:=35) (N:=some 108) (v:=?_) (a':=?_) (zqb 37 68719476735) rfl rfl (any_of HT_.out zqk) (fun _ _ _ h=>h) (Or.inl ⟨by rfl,?_⟩) ?_ ?_;rotate_left
                ·exact zqt
                rotate_left
                ·exact zqs
                refine pure_ (i:=36) (N:=some 2) (v:=?_) (a':=?_) (zqb 37 137438953471) rfl rfl (any_of HT_.out zqk) (fun _ _ _ h=>h) (Or.inl ⟨by rfl,?_⟩) ?_ ?_;rotate_left
                ·exact zqt
                rotate_left
                ·exact zqs
                refine done_ (done_of HT_.out zqk) ?_;try go_wp2
                go_ret
                exact⟨zq11,zq3⟩
               ·rw [if_neg g2] at H;have m6:(d6==d3)=false:=beq_eq_false_iff_ne.mpr g2;have m7:(d6 !=d3)=true:=bne_iff_ne.mpr g2;obtain rfl:=Option.some.inj H;(try go_wp2);replace HO_817000:=zqm (Kd.S_drew HO_817000.out);replace HO_817001:=zqm (Kd.Q_drew HO_817001.out);replace a1:=zqm (blk_drew a1.out);replace HB:=zqm (below_drew1 HB.out);have d4:0≤(a3:Int):=zqo;have d5:a3<(a0.length:Int):=zqo;obtain⟨b6,i6,e8,g3,b7,d0,d1⟩:=at_L3 (Kd.S_reads' HO_817000.out).2.2 a3 d4 d5
                cases g3
                obtain⟨k0,e9,f0,d7⟩:=Kd.S_get HO_817000.out [] a3 d4 zq382;obtain⟨h6,rfl,b8⟩:=f0;have b3:=d7 0 _ rfl;rw [Nat.add_zero,show ((Kd.slice 3 (Kd.int .i64))).sz=1 from rfl,Nat.mul_one] at b3;replace b3:=Option.some.inj (b3.symm.trans b7);rw [b3] at b8;have b4:=zqm (show Kd.R (Kd.int .i64) 3 _ _ _ _ (rd_L3 a0 a3) from b8);clear b3 b8 d7 e9;have a7:=zqm d1;have h7:=zqm d0;clear d1 d0;replace d4:=eq_true d4;replace d5:=eq_true d5;have e0:0≤(a4:Int):=zqo;have e1:a4<((rd_L3 a0 a3).length:Int):=zqo;obtain⟨e4,g4,d2⟩:=Kd.at_int zq77 a4 e0 e1
                cases g4
                replace e0:=eq_true e0;replace e1:=eq_true e1;refine start_ (n:=37) (S:=fun w'=>w'.cell? ⟨a8,0,none⟩=some (.slice (some b6) a0.length b5)∧w'.cell? ⟨a8,1,none⟩=some (.slice b0 a2.length a9)∧w'.cell? (b6.add (a3).toNat)=some (.slice (some e4) (rd_L3 a0 a3).length e8)∧w'.cell? (e4.add (a4).toNat)=some (.int .i64 (rd (rd_L3 a0 a3) a4))) (ds:= []) (zqb 37 0) zqk rfl rfl ⟨(blk_cell a1.out 0).trans rfl,(blk_cell a1.out 1).trans rfl,b7,d2⟩ (fun hHeld=>?_);refine with_tabW laws_FnPentagonOf.tab12 laws_FnPentagonOf.bits12 (fun HT_ HW_=>?_);generalize wc.drew=r4 at HO_817000 HO_817001 a1 HB b4 a7 b7 d2 hHeld ⊢;refine pure_ (i:=0) (N:=some 73) (v:=?_) (a':=?_) (zqb 37 1) rfl rfl (any_of HT_.out zqk) (fun _ _ _ h=>h) (Or.inl ⟨by rfl,?_⟩) ?_ ?_;rotate_left
                ·exact zqt
                rotate_left
                ·exact zqs
                refine pure_ (i:=1) (N:=some 74) (v:=?_) (a':=?_) (zqb 37 3) rfl rfl (any_of HT_.out zqk) (fun _ _ _ h=>h) (Or.inl ⟨by rfl,?_⟩) ?_ ?_;rotate_left
                ·exact zqt
                rotate_left
                ·exact zqs
                refine pure_ (i:=2) (N:=some 75) (v:=?_) (a':=?_) (zqb 37 7) rfl rfl (any_of HT_.out zqk) (fun _ _ _ h=>h) (Or.inl ⟨by rfl,?_⟩) ?_ ?_;rotate_left
                ·exact zqt
                rotate_left
                ·exact zqs
                refine pure_ (i:=3) (N:=some 76) (v:=?_) (a':=?_) (zqb 37 15) rfl rfl (any_of HT_.out zqk) (fun _ _ _ h=>h) (Or.inl ⟨by rfl,?_⟩) ?_ ?_;rotate_left
                ·exact zqt
                rotate_left
                ·exact zqs
                refine pure_ (i:=4) (N:=some 77) (v:=?_) (a':=?_) (zqb 37 31) rfl rfl (any_of HT_.out zqk) (fun _ _ _ h=>h) (Or.inl ⟨by rfl,?_⟩) ?_ ?_;rotate_left
                ·exact zqt
                rotate_left
                ·exact zqs
                refine pure_ (i:=6) (N:=some 79) (v:=?_) (a':=?_) (zqb 37 95) rfl rfl (any_of HT_.out zqk) (fun _ _ _ h=>h) (Or.inl ⟨by rfl,?_⟩) ?_ ?_;rotate_left
                ·exact zqt
                rotate_left
                ·exact zqs
                refine pure_ (i:=9) (N:=some 82) (v:=?_) (a':=?_) (zqb 37 607) rfl rfl (any_of HT_.out zqk) (fun _ _ _ h=>h) (Or.inl ⟨by rfl,?_⟩) ?_ ?_;rotate_left
                ·exact zqt
                rotate_left
                ·exact zqs
                refine take_ (i:=5) (N:=some 78) (v:=?_) (a':=?_) (zqb 37 639) rfl rfl (take_ofW HT_.out HW_.out zqk) (fun _ _ _ h=>h) (Or.inl ⟨by rfl,?_⟩) hHeld ?_ ?_;rotate_left
                ·rintro w' ⟨s0,s1,s2,s3⟩;go_simp;with_reducible rfl
                rotate_left
                ·exact zqs
                refine pure_ (i:=7) (N:=some 80) (v:=?_) (a':=?_) (zqb 37 767) rfl rfl (any_of HT_.out zqk) (fun _ _ _ h=>h) (Or.inl ⟨by rfl,?_⟩) ?_ ?_;rotate_left
                ·exact zqt
                rotate_left
                ·exact zqs
                refine take_ (i:=8) (N:=some 81) (v:=?_) (a':=?_) (zqb 37 1023) rfl rfl (take_ofW HT_.out HW_.out zqk) (fun _ _ _ h=>h) (Or.inl ⟨by rfl,?_⟩) hHeld ?_ ?_;rotate_left
                ·rintro w' ⟨s0,s1,s2,s3⟩;go_simp;with_reducible rfl
                rotate_left
                ·exact zqs
                refine pure_ (i:=10) (N:=some 83) (v:=?_) (a':=?_) (zqb 37 2047) rfl rfl (any_of HT_.out zqk) (fun _ _ _ h=>h) (Or.inl ⟨by rfl,?_⟩) ?_ ?_;rotate_left
                ·exact zqt
                rotate_left
                ·exact zqs
                refine take_ (i:=11) (N:=some 84) (v:=?_) (a':=?_) (zqb 37 4095) rfl rfl (take_ofW HT_.out HW_.out zqk) (fun _ _ _ h=>h) (Or.inl ⟨by rfl,?_⟩) hHeld ?_ ?_;rotate_left
                ·rintro w' ⟨s0,s1,s2,s3⟩;go_simp;with_reducible rfl
                rotate_left
                ·exact zqs
                refine pure_ (i:=12) (N:=some 85) (v:=?_) (a':=?_) (zqb 37 8191) rfl rfl (any_of HT_.out zqk) (fun _ _ _ h=>h) (Or.inl ⟨by rfl,?_⟩) ?_ ?_;rotate_left
                ·exact zqt
                rotate_left
                ·exact zqs
                refine pure_ (i:=13) (N:=some 86) (v:=?_) (a':=?_) (zqb 37 16383) rfl rfl (any_of HT_.out zqk) (fun _ _ _ h=>h) (Or.inl ⟨by rfl,?_⟩) ?_ ?_;rotate_left
                ·exact zqt
                rotate_left
                ·exact zqs
                refine pure_ (i:=14) (N:=some 87) (v:=?_) (a':=?_) (zqb 37 32767) rfl rfl (any_of HT_.out zqk) (fun _ _ _ h=>h) (Or.inl ⟨by rfl,?_⟩) ?_ ?_;rotate_left
                ·exact zqt
                rotate_left
                ·exact zqs
                refine pure_ (i:=16) (N:=some 89) (v:=?_) (a':=?_) (zqb 37 98303) rfl rfl (any_of HT_.out zqk) (fun _ _ _ h=>h) (Or.inl ⟨by rfl,?_⟩) ?_ ?_;rotate_left
                ·exact zqt
                rotate_left
                ·exact zqs
                refine pure_ (i:=17) (N:=some 90) (v:=?_) (a':=?_) (zqb 37 229375) rfl rfl (any_of HT_.out zqk) (fun _ _ _ h=>h) (Or.inl ⟨by rfl,?_⟩) ?_ ?_;rotate_left
                ·exact zqt
                rotate_left
                ·exact zqs
                refine pure_ (i:=20) (N:=some 93) (v:=?_) (a':=?_) (zqb 37 1277951) rfl rfl (any_of HT_.out zqk) (fun _ _ _ h=>h) (Or.inl ⟨by rfl,?_⟩) ?_ ?_;rotate_left
                ·exact zqt
                rotate_left
                ·exact zqs
                refine pure_ (i:=21) (N:=some 94) (v:=?_) (a':=?_) (zqb 37 3375103) rfl rfl (any_of HT_.out zqk) (fun _ _ _ h=>h) (Or.inl ⟨by rfl,?_⟩) ?_ ?_;rotate_left
                ·exact zqt
                rotate_left
                ·exact zqs
                refine take_ (i:=15) (N:=some 88) (v:=?_) (a':=?_) (zqb 37 3407871) rfl rfl (take_ofW HT_.out HW_.out zqk) (fun _ _ _ h=>h) (Or.inl ⟨by rfl,?_⟩) hHeld ?_ ?_;rotate_left
                ·rintro w' ⟨s0,s1,s2,s3⟩;go_simp;with_reducible rfl
                rotate_left
                ·exact zqs
                refine take_ (i:=19) (N:=some 92) (v:=?_) (a':=?_) (zqb 37 3932159) rfl rfl (take_ofW HT_.out HW_.out zqk) (fun _ _ _ h=>h) (Or.inl ⟨by rfl,?_⟩) hHeld ?_ ?_;rotate_left
                ·rintro w' ⟨s0,s1,s2,s3⟩;go_simp;with_reducible rfl
                rotate_left
                ·exact zqs
                refine one_ (i:=18) (N:=some 91) (zqb 37 4194303) rfl rfl (one_of HT_.out zqk) (by decide) (fun K hK=>?_);refine goes_ Try.func23 zqk rfl #[.agg #[.slice (some b6) a0.length b5,.slice b0 a2.length a9],.int .i64 a3,.int .i64 a5] (by rfl) rfl rfl zq1 ?_;(with_reducible refine(impl_AndOf.calls _ _ a0 _ _ a2 a3 a5 d6 _ ?side1 ?side2 ?side3 ?side4 o4.out).mono ?_);(case side1=> exact zq79);(case side2=>exact(Kd.S_reads' HO_817000.out).2.1);(case side3=> exact zq78);(case side4=>exact(Kd.Q_reads' HO_817001.out).2.1);rintro e r5 ⟨rfl,hb⟩;have e2:=(hb.cell (World.block_lt_of_cell? _ _ (hHeld.2.2.1))).trans (hHeld.2.2.1);have e3:=(hb.cell (World.block_lt_of_cell? _ _ (hHeld.2.2.2))).trans (hHeld.2.2.2);refine⟨_,rfl,?_⟩;replace HO_817000:=zqm (Kd.S_below zq111 hb);replace HO_817001:=zqm (Kd.Q_below zq110 hb);replace b4:=zqm (Kd.R_below zq172 hb);replace a1:=zqm (blk_below (g:=a8) (o:= .cells #[.slice (some b6) a0.length b5,.slice b0 a2.length a9] 30 (0,0)) zq16 hb);replace a7:=zqm (Kd.C_below zq77 hb);replace HB:=zqm (below_step zq3 hb);clear hb;refine hK.out _ _ ⟨(blk_cell a1.out 0).trans rfl,(blk_cell a1.out 1).trans rfl,e2,e3⟩ (fun hHeld=>?_);clear hK K;refine norm_ (a':=?_) ?_ ?_;rotate_left
                ·show Act.put _ (some 91) _=_;exact zqs
                refine one_ (i:=22) (N:=some 95) (zqb 37 8388607) rfl rfl (one_of HT_.out zqk) (by decide) (fun K hK=>?_);refine goes_ Try.func23 zqk rfl #[.agg #[.slice (some b6) a0.length b5,.slice b0 a2.length a9],.int .i64 a4,.int .i64 a5] (by rfl) rfl rfl zq1 ?_;(with_reducible refine(impl_AndOf.calls _ _ a0 _ _ a2 a4 a5 d3 _ ?side1 ?side2 ?side3 ?side4 o5.out).mono ?_);(case side1=> exact zq79);(case side2=>exact(Kd.S_reads' HO_817000.out).2.1);(case side3=> exact zq78);(case side4=>exact(Kd.Q_reads' HO_817001.out).2.1);rintro e r6 ⟨rfl,hb⟩;have e2:=(hb.cell (World.block_lt_of_cell? _ _ (hHeld.2.2.1))).trans (hHeld.2.2.1);have e3:=(hb.cell (World.block_lt_of_cell? _ _ (hHeld.2.2.2))).trans (hHeld.2.2.2);refine⟨_,rfl,?_⟩;replace HO_817000:=zqm (Kd.S_below zq111 hb);replace HO_817001:=zqm (Kd.Q_below zq110 hb);replace b4:=zqm (Kd.R_below zq172 hb);replace a1:=zqm (blk_below (g:=a8) (o:= .cells #[.slice (some b6) a0.length b5,.slice b0 a2.length a9] 30 (0,0)) zq16 hb);replace a7:=zqm (Kd.C_below zq77 hb);replace HB:=zqm (below_step zq3 hb);clear hb;refine hK.out _ _ ⟨(blk_cell a1.out 0).trans rfl,(blk_cell a1.out 1).trans rfl,e2,e3⟩ (fun hHeld=>?_);clear hK K;refine norm_ (a':=?_) ?_ ?_;rotate_left
                ·show Act.put _ (some 95) _=_;exact zqs
                refine pure_ (i:=23) (N:=some 96) (v:=?_) (a':=?_) (zqb 37 16777215) rfl rfl (any_of HT_.out zqk) (fun _ _ _ h=>h) (Or.inl ⟨by rfl,?_⟩) ?_ ?_;rotate_left
                ·exact zqt
                rotate_left
                ·exact zqs
                refine pure_ (i:=24) (N:=some 97) (v:=?_) (a':=?_) (zqb 37 33554431) rfl rfl (any_of HT_.out zqk) (fun _ _ _ h=>h) (Or.inl ⟨by rfl,?_⟩) ?_ ?_;rotate_left
                ·exact zqt
                rotate_left
                ·exact zqs
                refine pure_ (i:=25) (N:=some 98) (v:=?_) (a':=?_) (zqb 37 67108863) rfl rfl (any_of HT_.out zqk) (fun _ _ _ h=>h) (Or.inl ⟨by rfl,?_⟩) ?_ ?_;rotate_left
                ·exact zqt
                rotate_left
                ·exact zqs
                refine pure_ (i:=26) (N:=some 99) (v:=undef) (a':=?_) (zqb 37 134217727) rfl rfl (any_of HT_.out zqk) (fun _ _ _ h=>h) (Or.inr ⟨by rfl,rfl⟩) ?_ ?_;rotate_left
                ·exact zqs
                refine pure_ (i:=27) (N:=some 100) (v:=undef) (a':=?_) (zqb 37 268435455) rfl rfl (any_of HT_.out zqk) (fun _ _ _ h=>h) (Or.inr ⟨by rfl,rfl⟩) ?_ ?_;rotate_left
                ·exact zqs
                refine pure_ (i:=28) (N:=some 101) (v:=undef) (a':=?_) (zqb 37 536870911) rfl rfl (any_of HT_.out zqk) (fun _ _ _ h=>h) (Or.inr ⟨by rfl,rfl⟩) ?_ ?_;rotate_left
                ·exact zqs
                refine pure_ (i:=29) (N:=some 102) (v:=undef) (a':=?_) (zqb 37 1073741823) rfl rfl (any_of HT_.out zqk) (fun _ _ _ h=>h) (Or.inr ⟨by rfl,rfl⟩) ?_ ?_;rotate_left
                ·exact zqs
                refine pure_ (i:=30) (N:=some 103) (v:=undef) (a':=?_) (zqb 37 2147483647) rfl rfl (any_of HT_.out zqk) (fun _ _ _ h=>h) (Or.inr ⟨by rfl,rfl⟩) ?_ ?_;rotate_left
                ·exact zqs
                refine pure_ (i:=31) (N:=some 104) (v:=undef) (a':=?_) (zqb 37 4294967295) rfl rfl (any_of HT_.out zqk) (fun _ _ _ h=>h) (Or.inr ⟨by rfl,rfl⟩) ?_ ?_;rotate_left
                ·exact zqs
                refine pure_ (i:=32) (N:=some 105) (v:=undef) (a':=?_) (zqb 37 8589934591) rfl rfl (any_of HT_.out zqk) (fun _ _ _ h=>h) (Or.inr ⟨by rfl,rfl⟩) ?_ ?_;rotate_left
                ·exact zqs
                refine pure_ (i:=33) (N:=some 106) (v:=undef) (a':=?_) (zqb 37 17179869183) rfl rfl (any_of HT_.out zqk) (fun _ _ _ h=>h) (Or.inr ⟨by rfl,rfl⟩) ?_ ?_;rotate_left
                ·exact zqs
                refine pure_ (i:=34) (N:=some 107) (v:=undef) (a':=?_) (zqb 37 34359738367) rfl rfl (any_of HT_.out zqk) (fun _ _ _ h=>h) (Or.inr ⟨by rfl,rfl⟩) ?_ ?_;rotate_left
                ·exact zqs
                refine pure_ (i:=35) (N:=some 108) (v:=?_) (a':=?_) (zqb 37 68719476735) rfl rfl (any_of HT_.out zqk) (fun _ _ _ h=>h) (Or.inl ⟨by rfl,?_⟩) ?_ ?_;rotate_left
                ·exact zqt
                rotate_left
                ·exact zqs
                refine pure_ (i:=36) (N:=some 2) (v:=?_) (a':=?_) (zqb 37 137438953471) rfl rfl (any_of HT_.out zqk) (fun _ _ _ h=>h) (Or.inl ⟨by rfl,?_⟩) ?_ ?_;rotate_left
                ·exact zqt
                rotate_left
                ·exact zqs
                refine done_ (done_of HT_.out zqk) ?_;try go_wp2
                go_ret
                exact⟨zq11,zq3⟩
              ·rw [if_neg g1] at H;have m4:((rd (rd_L3 a0 a3) a4)==1)=false:=beq_eq_false_iff_ne.mpr g1;have m5:((rd (rd_L3 a0 a3) a4) !=1)=true:=bne_iff_ne.mpr g1;obtain rfl:=Option.some.inj H;(try go_wp2);replace HO_817000:=zqm (Kd.S_drew HO_817000.out);replace HO_817001:=zqm (Kd.Q_drew HO_817001.out);replace a1:=zqm (blk_drew a1.out);replace HB:=zqm (below_drew1 HB.out);have d4:0≤(a3:Int):=zqo;have d5:a3<(a0.length:Int):=zqo;obtain⟨b6,i6,e8,g3,b7,d0,d1⟩:=at_L3 (Kd.S_reads' HO_817000.out).2.2 a3 d4 d5
               cases g3
               obtain⟨k0,e9,f0,d7⟩:=Kd.S_get HO_817000.out [] a3 d4 zq382;obtain⟨h6,rfl,b8⟩:=f0;have b3:=d7 0 _ rfl;rw [Nat.add_zero,show ((Kd.slice 3 (Kd.int .i64))).sz=1 from rfl,Nat.mul_one] at b3;replace b3:=Option.some.inj (b3.symm.trans b7);rw [b3] at b8;have b4:=zqm (show Kd.R (Kd.int .i64) 3 _ _ _ _ (rd_L3 a0 a3) from b8);clear b3 b8 d7 e9;have a7:=zqm d1;have h7:=zqm d0;clear d1 d0;replace d4:=eq_true d4;replace d5:=eq_true d5;have e0:0≤(a4:Int):=zqo;have e1:a4<((rd_L3 a0 a3).length:Int):=zqo;obtain⟨e4,g4,d2⟩:=Kd.at_int zq77 a4 e0 e1
               cases g4
               replace e0:=eq_true e0;replace e1:=eq_true e1;refine start_ (n:=37) (S:=fun w'=>w'.cell? ⟨a8,0,none⟩=some (.slice (some b6) a0.length b5)∧w'.cell? ⟨a8,1,none⟩=some (.slice b0 a2.length a9)∧w'.cell? (b6.add (a3).toNat)=some (.slice (some e4) (rd_L3 a0 a3).length e8)∧w'.cell? (e4.add (a4).toNat)=some (.int .i64 (rd (rd_L3 a0 a3) a4))) (ds:= []) (zqb 37 0) zqk rfl rfl ⟨(blk_cell a1.out 0).trans rfl,(blk_cell a1.out 1).trans rfl,b7,d2⟩ (fun hHeld=>?_);refine with_tabW laws_FnPentagonOf.tab12 laws_FnPentagonOf.bits12 (fun HT_ HW_=>?_);generalize wc.drew=r7 at HO_817000 HO_817001 a1 HB b4 a7 b7 d2 hHeld ⊢;refine pure_ (i:=0) (N:=some 73) (v:=?_) (a':=?_) (zqb 37 1) rfl rfl (any_of HT_.out zqk) (fun _ _ _ h=>h) (Or.inl ⟨by rfl,?_⟩) ?_ ?_;rotate_left
               ·exact zqt
               rotate_left
               ·exact zqs
               refine pure_ (i:=1) (N:=some 74) (v:=?_) (a':=?_) (zqb 37 3) rfl rfl (any_of HT_.out zqk) (fun _ _ _ h=>h) (Or.inl ⟨by rfl,?_⟩) ?_ ?_;rotate_left
               ·exact zqt
               rotate_left
               ·exact zqs
               refine pure_ (i:=2) (N:=some 75) (v:=?_) (a':=?_) (zqb 37 7) rfl rfl (any_of HT_.out zqk) (fun _ _ _ h=>h) (Or.inl ⟨by rfl,?_⟩) ?_ ?_;rotate_left
               ·exact zqt
               rotate_left
               ·exact zqs
               refine pure_ (i:=3) (N:=some 76) (v:=?_) (a':=?_) (zqb 37 15) rfl rfl (any_of HT_.out zqk) (fun _ _ _ h=>h) (Or.inl ⟨by rfl,?_⟩) ?_ ?_;rotate_left
               ·exact zqt
               rotate_left
               ·exact zqs
               refine pure_ (i:=4) (N:=some 77) (v:=?_) (a':=?_) (zqb 37 31) rfl rfl (any_of HT_.out zqk) (fun _ _ _ h=>h) (Or.inl ⟨by rfl,?_⟩) ?_ ?_;rotate_left
               ·exact zqt
               rotate_left
               ·exact zqs
               refine pure_ (i:=6) (N:=some 79) (v:=?_) (a':=?_) (zqb 37 95) rfl rfl (any_of HT_.out zqk) (fun _ _ _ h=>h) (Or.inl ⟨by rfl,?_⟩) ?_ ?_;rotate_left
               ·exact zqt
               rotate_left
               ·exact zqs
               refine pure_ (i:=9) (N:=some 82) (v:=?_) (a':=?_) (zqb 37 607) rfl rfl (any_of HT_.out zqk) (fun _ _ _ h=>h) (Or.inl ⟨by rfl,?_⟩) ?_ ?_;rotate_left
               ·exact zqt
               rotate_left
               ·exact zqs
               refine take_ (i:=5) (N:=some 78) (v:=?_) (a':=?_) (zqb 37 639) rfl rfl (take_ofW HT_.out HW_.out zqk) (fun _ _ _ h=>h) (Or.inl ⟨by rfl,?_⟩) hHeld ?_ ?_;rotate_left
               ·rintro w' ⟨s0,s1,s2,s3⟩;go_simp;with_reducible rfl
               rotate_left
               ·exact zqs
               refine pure_ (i:=7) (N:=some 80) (v:=?_) (a':=?_) (zqb 37 767) rfl rfl (any_of HT_.out zqk) (fun _ _ _ h=>h) (Or.inl ⟨by rfl,?_⟩) ?_ ?_;rotate_left
               ·exact zqt
               rotate_left
               ·exact zqs
               refine take_ (i:=8) (N:=some 81) (v:=?_) (a':=?_) (zqb 37 1023) rfl rfl (take_ofW HT_.out HW_.out zqk) (fun _ _ _ h=>h) (Or.inl ⟨by rfl,?_⟩) hHeld ?_ ?_;rotate_left
               ·rintro w' ⟨s0,s1,s2,s3⟩;go_simp;with_reducible rfl
               rotate_left
               ·exact zqs
               refine pure_ (i:=10) (N:=some 83) (v:=?_) (a':=?_) (zqb 37 2047) rfl rfl (any_of HT_.out zqk) (fun _ _ _ h=>h) (Or.inl ⟨by rfl,?_⟩) ?_ ?_;rotate_left
               ·exact zqt
               rotate_left
               ·exact zqs
               refine take_ (i:=11) (N:=some 84) (v:=?_) (a':=?_) (zqb 37 4095) rfl rfl (take_ofW HT_.out HW_.out zqk) (fun _ _ _ h=>h) (Or.inl ⟨by rfl,?_⟩) hHeld ?_ ?_;rotate_left
               ·rintro w' ⟨s0,s1,s2,s3⟩;go_simp;with_reducible rfl
               rotate_left
               ·exact zqs
               refine pure_ (i:=12) (N:=some 85) (v:=?_) (a':=?_) (zqb 37 8191) rfl rfl (any_of HT_.out zqk) (fun _ _ _ h=>h) (Or.inl ⟨by rfl,?_⟩) ?_ ?_;rotate_left
               ·exact zqt
               rotate_left
               ·exact zqs
               refine pure_ (i:=13) (N:=some 86) (v:=?_) (a':=?_) (zqb 37 16383) rfl rfl (any_of HT_.out zqk) (fun _ _ _ h=>h) (Or.inl ⟨by rfl,?_⟩) ?_ ?_;rotate_left
               ·exact zqt
               rotate_left
               ·exact zqs
               refine pure_ (i:=14) (N:=some 87) (v:=?_) (a':=?_) (zqb 37 32767) rfl rfl (any_of HT_.out zqk) (fun _ _ _ h=>h) (Or.inl ⟨by rfl,?_⟩) ?_ ?_;rotate_left
               ·exact zqt
               rotate_left
               ·exact zqs
               refine pure_ (i:=15) (N:=some 88) (v:=undef) (a':=?_) (zqb 37 65535) rfl rfl (any_of HT_.out zqk) (fun _ _ _ h=>h) (Or.inr ⟨by rfl,rfl⟩) ?_ ?_;rotate_left
               ·exact zqs
               refine pure_ (i:=16) (N:=some 89) (v:=undef) (a':=?_) (zqb 37 131071) rfl rfl (any_of HT_.out zqk) (fun _ _ _ h=>h) (Or.inr ⟨by rfl,rfl⟩) ?_ ?_;rotate_left
               ·exact zqs
               refine pure_ (i:=17) (N:=some 90) (v:=undef) (a':=?_) (zqb 37 262143) rfl rfl (any_of HT_.out zqk) (fun _ _ _ h=>h) (Or.inr ⟨by rfl,rfl⟩) ?_ ?_;rotate_left
               ·exact zqs
               refine pure_ (i:=18) (N:=some 91) (v:=undef) (a':=?_) (zqb 37 524287) rfl rfl (any_of HT_.out zqk) (fun _ _ _ h=>h) (Or.inr ⟨by rfl,rfl⟩) ?_ ?_;rotate_left
               ·exact zqs
               refine pure_ (i:=19) (N:=some 92) (v:=undef) (a':=?_) (zqb 37 1048575) rfl rfl (any_of HT_.out zqk) (fun _ _ _ h=>h) (Or.inr ⟨by rfl,rfl⟩) ?_ ?_;rotate_left
               ·exact zqs
               refine pure_ (i:=20) (N:=some 93) (v:=undef) (a':=?_) (zqb 37 2097151) rfl rfl (any_of HT_.out zqk) (fun _ _ _ h=>h) (Or.inr ⟨by rfl,rfl⟩) ?_ ?_;rotate_left
               ·exact zqs
               refine pure_ (i:=21) (N:=some 94) (v:=undef) (a':=?_) (zqb 37 4194303) rfl rfl (any_of HT_.out zqk) (fun _ _ _ h=>h) (Or.inr ⟨by rfl,rfl⟩) ?_ ?_;rotate_left
               ·exact zqs
               refine pure_ (i:=22) (N:=some 95) (v:=undef) (a':=?_) (zqb 37 8388607) rfl rfl (any_of HT_.out zqk) (fun _ _ _ h=>h) (Or.inr ⟨by rfl,rfl⟩) ?_ ?_;rotate_left
               ·exact zqs
               refine pure_ (i:=23) (N:=some 96) (v:=undef) (a':=?_) (zqb 37 16777215) rfl rfl (any_of HT_.out zqk) (fun _ _ _ h=>h) (Or.inr ⟨by rfl,rfl⟩) ?_ ?_;rotate_left
               ·exact zqs
               refine pure_ (i:=24) (N:=some 97) (v:=?_) (a':=?_) (zqb 37 33554431) rfl rfl (any_of HT_.out zqk) (fun _ _ _ h=>h) (Or.inl ⟨by rfl,?_⟩) ?_ ?_;rotate_left
               ·exact zqt
               rotate_left
               ·exact zqs
               refine pure_ (i:=25) (N:=some 98) (v:=?_) (a':=?_) (zqb 37 67108863) rfl rfl (any_of HT_.out zqk) (fun _ _ _ h=>h) (Or.inl ⟨by rfl,?_⟩) ?_ ?_;rotate_left
               ·exact zqt
               rotate_left
               ·exact zqs
               refine pure_ (i:=26) (N:=some 99) (v:=undef) (a':=?_) (zqb 37 134217727) rfl rfl (any_of HT_.out zqk) (fun _ _ _ h=>h) (Or.inr ⟨by rfl,rfl⟩) ?_ ?_;rotate_left
               ·exact zqs
               refine pure_ (i:=27) (N:=some 100) (v:=undef) (a':=?_) (zqb 37 268435455) rfl rfl (any_of HT_.out zqk) (fun _ _ _ h=>h) (Or.inr ⟨by rfl,rfl⟩) ?_ ?_;rotate_left
               ·exact zqs
               refine pure_ (i:=28) (N:=some 101) (v:=undef) (a':=?_) (zqb 37 536870911) rfl rfl (any_of HT_.out zqk) (fun _ _ _ h=>h) (Or.inr ⟨by rfl,rfl⟩) ?_ ?_;rotate_left
               ·exact zqs
               refine pure_ (i:=29) (N:=some 102) (v:=undef) (a':=?_) (zqb 37 1073741823) rfl rfl (any_of HT_.out zqk) (fun _ _ _ h=>h) (Or.inr ⟨by rfl,rfl⟩) ?_ ?_;rotate_left
               ·exact zqs
               refine pure_ (i:=30) (N:=some 103) (v:=undef) (a':=?_) (zqb 37 2147483647) rfl rfl (any_of HT_.out zqk) (fun _ _ _ h=>h) (Or.inr ⟨by rfl,rfl⟩) ?_ ?_;rotate_left
               ·exact zqs
               refine pure_ (i:=31) (N:=some 104) (v:=undef) (a':=?_) (zqb 37 4294967295) rfl rfl (any_of HT_.out zqk) (fun _ _ _ h=>h) (Or.inr ⟨by rfl,rfl⟩) ?_ ?_;rotate_left
               ·exact zqs
               refine pure_ (i:=32) (N:=some 105) (v:=undef) (a':=?_) (zqb 37 8589934591) rfl rfl (any_of HT_.out zqk) (fun _ _ _ h=>h) (Or.inr ⟨by rfl,rfl⟩) ?_ ?_;rotate_left
               ·exact zqs
               refine pure_ (i:=33) (N:=some 106) (v:=undef) (a':=?_) (zqb 37 17179869183) rfl rfl (any_of HT_.out zqk) (fun _ _ _ h=>h) (Or.inr ⟨by rfl,rfl⟩) ?_ ?_;rotate_left
               ·exact zqs
               refine pure_ (i:=34) (N:=some 107) (v:=undef) (a':=?_) (zqb 37 34359738367) rfl rfl (any_of HT_.out zqk) (fun _ _ _ h=>h) (Or.inr ⟨by rfl,rfl⟩) ?_ ?_;rotate_left
               ·exact zqs
               refine pure_ (i:=35) (N:=some 108) (v:=?_) (a':=?_) (zqb 37 68719476735) rfl rfl (any_of HT_.out zqk) (fun _ _ _ h=>h) (Or.inl ⟨by rfl,?_⟩) ?_ ?_;rotate_left
               ·exact zqt
               rotate_left
               ·exact zqs
               refine pure_ (i:=36) (N:=some 2) (v:=?_) (a':=?_) (zqb 37 137438953471) rfl rfl (any_of HT_.out zqk) (fun _ _ _ h=>h) (Or.inl ⟨by rfl,?_⟩) ?_ ?_;rotate_left
               ·exact zqt
               rotate_left
               ·exact zqs
               refine done_ (done_of HT_.out zqk) ?_;try go_wp2
               go_ret
               exact⟨zq11,zq3⟩
             ·rw [if_neg j9] at H;exact absurd H (by simp)
            ·rw [if_neg j8] at H;exact absurd H (by simp)
           ·rw [if_neg j7] at H;exact absurd H (by simp)
          ·rw [if_neg j6] at H;exact absurd H (by simp)
        ·replace j5:=Bool.eq_false_iff.mpr j5;subst j5;(have H1:(if a3=(-1) then(if a5=(-1) then(if a4=(-1) then((laws_alive.f j3).bind fun f8=>(some f8)) else(some false)) else(some false)) else(some false))=some r:=by rw [if_neg (show¬(false=true) by decide)] at H;exact H);clear H;have H:=H1;clear H1
         by_cases g5:a3=(-1)
         ·rw [if_pos g5] at H;have m8:(a3==(-1))=true:=beq_iff_eq.mpr g5;have m9:(a3 !=(-1))=false:=bne_eq_false_iff_eq.mpr g5;clear g5
          by_cases g6:a5=(-1)
          ·rw [if_pos g6] at H;have n0:(a5==(-1))=true:=beq_iff_eq.mpr g6;have n1:(a5 !=(-1))=false:=bne_eq_false_iff_eq.mpr g6;clear g6
           by_cases g7:a4=(-1)
           ·rw [if_pos g7] at H;have n2:(a4==(-1))=true:=beq_iff_eq.mpr g7;have n3:(a4 !=(-1))=false:=bne_eq_false_iff_eq.mpr g7;clear g7;replace H:=Option.bind_eq_some_iff.mp H;obtain⟨f8,m1,H⟩:=H;replace H:(some f8)=some r:=H;have p6:=zqm m1;clear m1;obtain rfl:=Option.some.inj H
            go_wp2_with (first|(go_at_call 18;(with_reducible refine(laws_alive.calls j3 f8 _ p6.out).mono ?_);rintro e r8 ⟨rfl,hb⟩;replace HO_817000:=zqm (Kd.S_below zq111 hb);replace HO_817001:=zqm (Kd.Q_below zq110 hb);replace a1:=zqm (blk_below (g:=a8) (o:= .cells #[.slice c7 a0.length b5,.slice b0 a2.length a9] 30 (0,0)) zq16 hb);replace HB:=zqm (below_step zq3 hb);clear hb))
            go_ret
            exact⟨zq11,zq3⟩
           ·rw [if_neg g7] at H;have n2:(a4==(-1))=false:=beq_eq_false_iff_ne.mpr g7;have n3:(a4 !=(-1))=true:=bne_iff_ne.mpr g7;obtain rfl:=Option.some.inj H
            go_wp2
            go_ret
            exact⟨zq11,zq3⟩
          ·rw [if_neg g6] at H;have n0:(a5==(-1))=false:=beq_eq_false_iff_ne.mpr g6;have n1:(a5 !=(-1))=true:=bne_iff_ne.mpr g6;obtain rfl:=Option.some.inj H
           go_wp2
           go_ret
           exact⟨zq11,zq3⟩
         ·rw [if_neg g5] at H;have m8:(a3==(-1))=false:=beq_eq_false_iff_ne.mpr g5;have m9:(a3 !=(-1))=true:=bne_iff_ne.mpr g5;obtain rfl:=Option.some.inj H
          go_wp2
          go_ret
          exact⟨zq11,zq3⟩
def laws_FnPentagonOf.Pure : Prop := ∀ (l0 : List Int), l0.length ≤ maxLen → l0.length * 1 ≤ 140737488351232 → (∀ x ∈ l0, (Lit.int .u8 x).wf = true) → ∃ k, laws_FnPentagonOf.f k l0 = some true
theorem laws_FnPentagonOf.walk (P : laws_FnPentagonOf.Pure) (a0 : Option Addr) (len0 cap0 : Nat) (z0 : List Int) (w : World) (w0 : (a0 = none ∧ len0 = 0 ∧ cap0 = 0 ∧ z0 = []) ∨ ∃ x, a0 = some x ∧ len0 ≤ cap0 ∧ cap0 ≤ maxLen ∧ z0.length = cap0 ∧ (∀ i, i < z0.length → w.cell? (x.add i) = some (.int .u8 (z0.getD i 0))) ∧ ∀ n ∈ z0, (Lit.int .u8 n).wf = true) (y0 : len0 * 1 ≤ 140737488351232) :
  Calls Try.prog 8 #[.slice a0 len0 cap0] w fun e w' => e = .returned (.bool true) ∧ Below w.heap.size w w' := by
 obtain ⟨l0, rfl, hr0, hm0, hw0, hc0⟩ := ReadsInt.ofRowC w0
 obtain ⟨k, h⟩ := P l0 hm0 y0 hw0
 refine (laws_FnPentagonOf.calls k _ _ l0 true w (Kd.C_of_reads (d := (0 : Int)) (h1 := fun _ => rfl) hr0) hc0 h).mono ?_
 rintro e w' ⟨rfl, hd⟩
 exact ⟨rfl, hd⟩
end Go.Proofs.Ytdoomkcgdcfmlaa.Print
end
section
namespace Go.Proofs.Ytdoomkcgdcfmlaa.Print
open Go.RowKit Go.Proofs.YtdoomkcgdcfmlaaW.PrintWords Go.Proofs.YtdoomkcgdcfmlaaW.PrintLast Go.Proofs.YtdoomkcgdcfmlaaW.PrintMore
open Oml
theorem drawPentagonOf_ev {l : List Int} (h : Bytes l) : ∃ V M, Ev (fun k => spec_DrawPentagonOf.f k l) (V, M) := by
  obtain⟨b,hb,hbl,ho⟩:=open_ev h
  obtain⟨V,M,q,hd,_,_⟩:=logic_ev hb hbl (p:=0) (by omega) (by omega) 9
  exact⟨V,M,by unfold spec_DrawPentagonOf.f;exact Ev.pbind ho (Ev.bind hd (Ev.now _))⟩
theorem laws_FnPentagonOf.ev (l : List Int) (h : Bytes l) : Ev (fun k => laws_FnPentagonOf.f k l) true := by
  unfold laws_FnPentagonOf.f
  by_cases hl:(l.length:Int)>1048576
  · exact Ev.ite_pos hl (Ev.now _)
  refine Ev.ite_neg hl ?_
  obtain⟨V,M,hd⟩:=drawPentagonOf_ev h
  refine Ev.bind hd (Ev.pbind rfl (Ev.bind (spec_PentagonOf.ev V M) ?_))
  dsimp only
  refine Ev.ite_pos rfl (Ev.ite_pos rfl (Ev.ite_pos rfl ?_))
  refine Ev.succ ?_
  simp only [laws_FnPentagonOf.j0]
  refine Ev.ite_neg (by simp) (Ev.bind (spec_LogicOk.ev V M) ?_)
  cases hg:logicB V M with
  | false =>
    refine Ev.ite_neg (by simp) (Ev.succ ?_)
    simp only [laws_FnPentagonOf.j1]
    exact Ev.ite_neg (by simp) (Ev.ite_neg (by simp) (Ev.ite_pos rfl (Ev.ite_pos rfl (Ev.ite_pos rfl (Ev.bind alive_ok (Ev.now _))))))
  | true =>
    have L:=logicB_iff.1 hg
    refine Ev.ite_pos rfl (Ev.pbind rfl (Ev.succ ?_))
    simp only [laws_FnPentagonOf.j1,impl_ModularOk.f,hg,if_true]
    cases hp:pentO V with
    | none =>
      have e1:pentV V=(-1,-1,-1,false):=by unfold pentV;rw [hp]
      have e2:modB V=true:=(modB_iff L).2 ((pent_none L).1 hp)
      rw [e1,e2]
      exact Ev.ite_neg (by simp) (Ev.ite_neg (by simp) (Ev.ite_pos rfl (Ev.ite_pos rfl (Ev.ite_pos rfl (Ev.bind alive_ok (Ev.now _))))))
    | some k =>
      obtain⟨a,c,b,ka,kc,kb,hne,hle,hm,hj⟩:=pent_some L hp
      have e1:pentV V=((a.1:Int),(c.1:Int),(b.1:Int),true):=by unfold pentV;rw [hp];simp only [ka,kc,kb]
      have e2 : modB V = false := by
        cases e:modB V with
        |false=>rfl
        |true=>rw [(pent_none L).2 ((modB_iff L).1 e)] at hp;exact absurd hp (by simp)
      rw [e1,e2]
      dsimp only
      have ha:=a.2
      have hc:=c.2
      have hrow:=L.row a.1 ha
      have hv : at2 V a.1 c.1 = 1 := by
        have:=hle
        rw [← leB_fin L] at this
        unfold leB at this
        exact beq_iff_eq.1 this
      have inl : [((a.1 : Nat) : Int), ((b.1 : Nat) : Int)].all (inR V.length) = true := by
        simp only [List.all_cons,List.all_nil,Bool.and_true,Bool.and_eq_true,inR_iff];exact⟨in_fin a,in_fin b⟩
      have inl2 : [((c.1 : Nat) : Int), ((b.1 : Nat) : Int)].all (inR V.length) = true := by
        simp only [List.all_cons,List.all_nil,Bool.and_true,Bool.and_eq_true,inR_iff];exact⟨in_fin c,in_fin b⟩
      refine Ev.ite_neg (by simp) (Ev.ite_pos rfl (Ev.ite_neg (fun e=>hne (fin_inj.1 e)) (Ev.ite_pos (by omega) (Ev.ite_pos (by omega) (Ev.ite_pos (by omega) ?_)))))
      simp only [rdL_nat,rd_nat,rd_row,hrow,hv,impl_AndOf.f,impl_OrOf.f,hg,inl,inl2,if_true]
      refine Ev.ite_pos (by omega) (Ev.ite_pos ?_ ?_)
      · rw [and_fin L,and_fin L,fin_inj,L.ol.meet_comm a b,L.ol.meet_comm c b];exact hm
      · rw [or_fin L, or_fin L]
        refine Ev.pbind rfl (Ev.pbind rfl ?_)
        rw [fin_beq,L.ol.join_comm a b,L.ol.join_comm c b,decide_eq_true hj]
        exact Ev.now _
end Go.Proofs.Ytdoomkcgdcfmlaa.Print
namespace Go.Proofs.Ytdoomkcgdcfmlaa.Pure
open Go.RowKit Go.Proofs.Ytdoomkcgdcfmlaa.Print Go.Proofs.YtdoomkcgdcfmlaaW.PrintWords Go.Proofs.YtdoomkcgdcfmlaaW.PrintLast Go.Proofs.YtdoomkcgdcfmlaaW.PrintMore
theorem FnPentagonOf : laws_FnPentagonOf.Pure := fun l _ _ hw => (laws_FnPentagonOf.ev l fun x hx => by
  have:=hw x hx
  first|exact Go.RowKit.bounds_u8 this|exact Go.ChangeShapes.bounds_u8 this|exact bounds_u8 this|(simp [Lit.wf,IntKind.wf] at this;omega)|(simp [Lit.wf] at this;omega)).rounds
end Go.Proofs.Ytdoomkcgdcfmlaa.Pure
end
