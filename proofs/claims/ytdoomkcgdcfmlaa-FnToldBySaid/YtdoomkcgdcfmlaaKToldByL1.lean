/- Part 1 of what this is proved by: for every text of bytes the law of ToldBy answers true -/
import Derived.Test.YtdoomkcgdcfmlaaLB7
import Derived.Below
import Derived.Deep.Draws
import Derived.Deep.AppendLies
import Derived.Maps.AppendAt
import Derived.OwnWalk
import Derived.Laws.BytesArg
import Derived.Laws.MakeOwn
import Derived.Laws.OwnMore
import Derived.Deep.OwnRows
import Derived.Tactics
import Derived.Lib.ConvBytes
import Derived.Laws.Slices
import Derived.WalkKit
import Derived.KernelRfl
import Derived.RowKit3
import Derived.Deep.LoopGhost
import Derived.Deep.QuietTactic
import Derived.BigQuiet
import Derived.WideLaws
import Derived.Deep.DeepCutAuto
import Derived.Deep.CutBlock
import Derived.Deep.RegionHeld3
import Derived.Laws.Rows
import Derived.Lib.AppendStr
import Derived.ArgAppend
import Derived.Laws.IdiomCopy
import Derived.RowKit
import Derived.Test.YtdoomkcgdcfmlaaProg
import Derived.OrdersHeld
import Derived.Laws.BitsLemmas
import Derived.Laws.Bits64b
set_option linter.all false
section
namespace Go.Proofs.YtdoomkcgdcfmlaaW.PrintWords
open Go.RowKit
def nums (k : IntKind) (xs : List Int) : List Value := xs.map fun x => .int k x
theorem own_lit (W : World) (base : Nat) (e : TypeId) (k : IntKind) (xs : List Int) (hb : base ≤ W.heap.size) (hm : xs.length ≤ 9223372036854775807) :
    (W.alloc (.cells (nums k xs).toArray e)).ownsRow base e 1 (.slice (some ⟨W.heap.size,0,none⟩) xs.length xs.length) xs.length (nums k xs):=by
  have h:=World.ownsRow_lit (base:=base) (e:=e) (size:=1) W (nums k xs).toArray xs.length hb (by simpa [maxLen] using hm) (by simp [nums])
  simpa using h
section
variable {P : Program}
theorem results_ct {fn : Func} {p u : Tmp} {ty : TypeId} (h : fn.results = #[.cell p ty, .tmp u]) (tmps : Array Value) (w : World) (g : Nat) (t : TypeId) (cs : Array Value) (fr : Nat × Nat) (d : TypeDesc)
    (hp:tmps.getD p undef= .pointer (some ⟨g,0,none⟩)) (hg:w.heap[g]? =some (.cells cs t fr))
    (hu:P.underlying ty=some d) (hd:(match d with| .struct _| .array _ _=>true|_=>false)=true) (hi:(P.info? ty).map (·.size)=some cs.size):
    (results fn tmps).run P w= .ok (.tuple #[.agg cs,tmps.getD u undef]) w:=by
  have hp':tmps[p]?.getD undef= .pointer (some ⟨g,0,none⟩):=by simpa using hp
  simp [results,h,hp',asAddr,run_loadVar_row w g t ty cs fr d hg hu hd hi]
theorem results_ctt {fn : Func} {p u v : Tmp} {ty : TypeId} (h : fn.results = #[.cell p ty, .tmp u, .tmp v]) (tmps : Array Value) (w : World) (g : Nat) (t : TypeId) (cs : Array Value) (fr : Nat × Nat) (d : TypeDesc)
    (hp:tmps.getD p undef= .pointer (some ⟨g,0,none⟩)) (hg:w.heap[g]? =some (.cells cs t fr))
    (hu:P.underlying ty=some d) (hd:(match d with| .struct _| .array _ _=>true|_=>false)=true) (hi:(P.info? ty).map (·.size)=some cs.size):
    (results fn tmps).run P w= .ok (.tuple #[.agg cs,tmps.getD u undef,tmps.getD v undef]) w:=by
  have hp':tmps[p]?.getD undef= .pointer (some ⟨g,0,none⟩):=by simpa using hp
  simp [results,h,hp',asAddr,run_loadVar_row w g t ty cs fr d hg hu hd hi]
end
theorem ReadsInt.drewN {W : World} {k : IntKind} {A : Option Addr} {n : Nat} {xs : List Int} (h : ReadsInt W k A n xs) (m : Nat) : ReadsInt (W.drewN m) k A n xs := h
theorem ReadsOf.drewN {α : Type} {enc : α → Value} {d : α} {W : World} {A : Option Addr} {n : Nat} {xs : List α} (h : ReadsOf enc d W A n xs) (m : Nat) : ReadsOf enc d (W.drewN m) A n xs := h
theorem cell_far {W : World} {p a : Addr} (h : a.block ≠ p.block) (u : Value) : (W.setCell p u).cell? a = W.cell? a := by
  have := Below.heap_setCell W p u a.block h
  simp [World.cell?, this]
end Go.Proofs.YtdoomkcgdcfmlaaW.PrintWords
end
section
namespace Go.Proofs.YtdoomkcgdcfmlaaW.PrintWords
open Go.RowKit
section
variable {w W W2 : World} {S S2 S' : Nat → Prop}
theorem Kept.drewN (h : Kept w W S) (m : Nat) : Kept w (W.drewN m) S := h
end
end Go.Proofs.YtdoomkcgdcfmlaaW.PrintWords
end
section
namespace Go.Proofs.YtdoomkcgdcfmlaaW.PrintWords
open Go.RowKit
def mx (a b : Int) : Int := if a < b then b else a
def shr (k : IntKind) (x y : Int) : Int := x / 2 ^ min y.toNat k.bits
theorem shr_small {k : IntKind} {x y j : Int} (h : shr k x y = j) (hy : y ≤ k.bits) : x / 2 ^ y.toNat = j := by rw [← h]; unfold shr; rw [Nat.min_eq_left (by omega)]
end Go.Proofs.YtdoomkcgdcfmlaaW.PrintWords

end
section
namespace Go.Proofs.Ytdoomkcgdcfmlaa
variable {p : Prop}
theorem zq5 (h:p:=by repeat(first|exact(Kd.S_reads' a2.out).2.2|(with_reducible refine Kd.C_alloc ?_ _)|(with_reducible refine Kd.C_drewN ?_ _)|(with_reducible refine Kd.C_drew ?_))):p:=h
theorem zq6 (h:p:=by (with_reducible repeat(first|apply Kd.S_alloc|apply Kd.S_drewN|apply Kd.S_drew));exact a2.out):p:=h
theorem zq26 (h:p:=by repeat(first|exact(Kd.C_below a8.out HB.out)|(with_reducible refine Kd.C_alloc ?_ _)|(with_reducible refine Kd.C_drewN ?_ _)|(with_reducible refine Kd.C_drew ?_))):p:=h
theorem zq30 (h:p:=by repeat(first|(with_reducible first|exact HB.out|apply below_alloc|apply pw_below_drewN|apply below_drew1|refine below_set ?_ (IsS87.ge a2.out)|refine below_set ?_ a5.out)|exact HB.out)):p:=h
theorem zq39 (h:p:=by repeat(first|exact(Kd.Q_reads' a1.out).2.2|(with_reducible refine Kd.C_alloc ?_ _)|(with_reducible refine Kd.C_drewN ?_ _)|(with_reducible refine Kd.C_drew ?_))):p:=h
theorem zq41 (h:p:=by (with_reducible repeat(first|apply Kd.Q_alloc|apply Kd.Q_drewN|apply Kd.Q_drew));exact a1.out):p:=h
theorem zq45 (h:p:=by repeat(first|exact(Kd.C_below b0.out HB.out)|(with_reducible refine Kd.C_alloc ?_ _)|(with_reducible refine Kd.C_drewN ?_ _)|(with_reducible refine Kd.C_drew ?_))):p:=h
theorem zq91 (h:p:=by repeat(first|(with_reducible first|exact HB.out|apply below_alloc|apply pw_below_drewN|apply below_drew1|refine below_set ?_ b8.out)|exact HB.out)):p:=h
theorem zq96 (h:p:=by repeat(first|exact(Kd.C_below b2.out HB.out)|(with_reducible refine Kd.C_alloc ?_ _)|(with_reducible refine Kd.C_drewN ?_ _)|(with_reducible refine Kd.C_drew ?_))):p:=h
theorem zq102 (h:p:=by repeat(first|(with_reducible first|exact HB.out|apply below_alloc|apply pw_below_drewN|apply below_drew1|refine below_set ?_ (IsS87.ge a0.out)|refine below_set ?_ c3.out|refine below_set ?_ d0.out)|exact HB.out)):p:=h
theorem zq117 (h:p:=by repeat(first|(with_reducible first|exact a0.out|apply IsS87.alloc|apply IsS87.drewN|apply IsS87.drew|apply IsS87.set_1|refine IsS87.far ?_ a7.out _|refine IsS87.far ?_ a9.out _)|exact a0.out)):p:=h
theorem zq118 (h:p:=by repeat(first|(with_reducible first|exact HK.out|apply KeepBut.set_|apply keep_drewN|apply keep_drew|apply keep_alloc|refine keep_far ?_ b9.out _|refine keep_far ?_ c9.out _)|exact HK.out)):p:=h
theorem zq128 (h:p:=by repeat(first|(with_reducible first|exact a2.out|apply IsS87.alloc|apply IsS87.drewN|apply IsS87.drew|apply IsS87.set_1|refine IsS87.far ?_ a4.out _)|exact a2.out)):p:=h
theorem zq132 (h:p:=by repeat(first|(with_reducible first|exact HK.out|apply KeepBut.set_|apply keep_drewN|apply keep_drew|apply keep_alloc|refine keep_far ?_ b9.out _)|exact HK.out)):p:=h
theorem zq152 (h:p:=by repeat(first|exact f9.out|(with_reducible refine Kd.C_alloc ?_ _)|(with_reducible refine Kd.C_drewN ?_ _)|(with_reducible refine Kd.C_drew ?_))):p:=h
theorem zq153 (h:p:=by (with_reducible repeat(first|refine blk_drewN ?_ _|refine blk_drew ?_|refine blk_alloc ?_ _));exact a6.out):p:=h
theorem zq155 (h:p:=by repeat(first|exact(Kd.C_below b4.out HB.out)|(with_reducible refine Kd.C_alloc ?_ _)|(with_reducible refine Kd.C_drewN ?_ _)|(with_reducible refine Kd.C_drew ?_))):p:=h
theorem zq176 (h:p:=by repeat(first|(with_reducible first|exact HB.out|apply below_alloc|apply pw_below_drewN|apply below_drew1|refine below_set ?_ (IsS87.ge a2.out)|refine below_set ?_ a5.out|refine below_set ?_ c8.out)|exact HB.out)):p:=h
theorem zq188 (h:p:=by (with_reducible repeat(first|apply Kd.Q_alloc|apply Kd.Q_drewN|apply Kd.Q_drew));exact(Kd.Q_mono (Kd.Q_far (p:=⟨a5,1,none⟩) (Kd.Q_far (p:=⟨a5,0,none⟩) (Kd.Q_types a1.out a0.out (by decide)) (fun _ hk=>hk.2) (.slice e1 a3.length d9)) (fun _ hk=>hk.2) (.slice e2 a4.length e0)) (fun _ h_=>h_.1))):p:=h
theorem zq205 (h:p:=by (with_reducible repeat(first|apply Kd.Q_alloc|apply Kd.Q_drewN|apply Kd.Q_drew));exact(Kd.Q_mono (Kd.Q_far (p:=⟨a5,1,none⟩) (Kd.Q_far (p:=⟨a5,0,none⟩) (Kd.Q_types a1.out a0.out (by decide)) (fun _ hk=>hk.2) (.slice e9 a3.length e5)) (fun _ hk=>hk.2) (.slice f0 a4.length e6)) (fun _ h_=>h_.1))):p:=h
theorem zq211 (h:p:=by (with_reducible repeat(first|apply Kd.Q_alloc|apply Kd.Q_drewN|apply Kd.Q_drew));exact(Kd.Q_mono (Kd.Q_far (p:=⟨a5,1,none⟩) (Kd.Q_far (p:=⟨a5,0,none⟩) (Kd.Q_types a1.out a0.out (by decide)) (fun _ hk=>hk.2) (.slice d4 a3.length d2)) (fun _ hk=>hk.2) (.slice d5 a4.length d3)) (fun _ h_=>h_.1))):p:=h
theorem zq213 (h:p:=by (with_reducible repeat(first|apply Kd.S_alloc|apply Kd.S_drewN|apply Kd.S_drew));exact(Kd.S_mono (Kd.S_far (p:=⟨a5,1,none⟩) (Kd.S_far (p:=⟨a5,0,none⟩) (Kd.S_types a2.out a0.out (by decide)) (fun _ hk=>hk.2) (.slice c3 a3.length b6)) (fun _ hk=>hk.2) (.slice c4 a4.length b7)) (fun _ h_=>h_.1))):p:=h
theorem zq216 (h:p:=by (with_reducible repeat(first|apply Kd.S_alloc|apply Kd.S_drewN|apply Kd.S_drew));exact(Kd.S_mono (Kd.S_far (p:=⟨a5,1,none⟩) (Kd.S_far (p:=⟨a5,0,none⟩) (Kd.S_types a2.out a0.out (by decide)) (fun _ hk=>hk.2) (.slice e1 a3.length d9)) (fun _ hk=>hk.2) (.slice e2 a4.length e0)) (fun _ h_=>h_.1))):p:=h
theorem zq217 (h:p:=by (with_reducible repeat(first|apply Kd.S_alloc|apply Kd.S_drewN|apply Kd.S_drew));exact(Kd.S_mono (Kd.S_far (p:=⟨a5,1,none⟩) (Kd.S_far (p:=⟨a5,0,none⟩) (Kd.S_types a2.out a0.out (by decide)) (fun _ hk=>hk.2) (.slice e9 a3.length e5)) (fun _ hk=>hk.2) (.slice f0 a4.length e6)) (fun _ h_=>h_.1))):p:=h
theorem zq219 (h:p:=by (with_reducible repeat(first|apply Kd.Q_alloc|apply Kd.Q_drewN|apply Kd.Q_drew));exact(Kd.Q_mono (Kd.Q_far (p:=⟨a5,1,none⟩) (Kd.Q_far (p:=⟨a5,0,none⟩) (Kd.Q_types a1.out a0.out (by decide)) (fun _ hk=>hk.2) (.slice d0 a3.length c5)) (fun _ hk=>hk.2) (.slice d1 a4.length c9)) (fun _ h_=>h_.1))):p:=h
theorem zq223 (h:p:=by (with_reducible repeat(first|apply Kd.S_alloc|apply Kd.S_drewN|apply Kd.S_drew));exact(Kd.S_mono (Kd.S_far (p:=⟨a5,1,none⟩) (Kd.S_far (p:=⟨a5,0,none⟩) (Kd.S_types a2.out a0.out (by decide)) (fun _ hk=>hk.2) (.slice d4 a3.length d2)) (fun _ hk=>hk.2) (.slice d5 a4.length d3)) (fun _ h_=>h_.1))):p:=h
theorem zq231 (h:p:=by (with_reducible repeat(first|apply Kd.Q_alloc|apply Kd.Q_drewN|apply Kd.Q_drew));exact(Kd.Q_mono (Kd.Q_far (p:=⟨a5,1,none⟩) (Kd.Q_far (p:=⟨a5,0,none⟩) (Kd.Q_types a1.out a0.out (by decide)) (fun _ hk=>hk.2) (.slice e7 a3.length e3)) (fun _ hk=>hk.2) (.slice e8 a4.length e4)) (fun _ h_=>h_.1))):p:=h
theorem zq238 (h:p:=by (with_reducible repeat(first|apply Kd.Q_alloc|apply Kd.Q_drewN|apply Kd.Q_drew));exact(Kd.Q_mono (Kd.Q_far (p:=⟨a5,1,none⟩) (Kd.Q_far (p:=⟨a5,0,none⟩) (Kd.Q_types a1.out a0.out (by decide)) (fun _ hk=>hk.2) (.slice c3 a3.length b6)) (fun _ hk=>hk.2) (.slice c4 a4.length b7)) (fun _ h_=>h_.1))):p:=h
theorem zq240 (h:p:=by (with_reducible repeat(first|apply Kd.S_alloc|apply Kd.S_drewN|apply Kd.S_drew));exact(Kd.S_mono (Kd.S_far (p:=⟨a5,1,none⟩) (Kd.S_far (p:=⟨a5,0,none⟩) (Kd.S_types a2.out a0.out (by decide)) (fun _ hk=>hk.2) (.slice e7 a3.length e3)) (fun _ hk=>hk.2) (.slice e8 a4.length e4)) (fun _ h_=>h_.1))):p:=h
theorem zq251 (h:p:=by (with_reducible repeat(first|apply Kd.S_alloc|apply Kd.S_drewN|apply Kd.S_drew));exact(Kd.S_mono (Kd.S_far (p:=⟨a5,1,none⟩) (Kd.S_far (p:=⟨a5,0,none⟩) (Kd.S_types a2.out a0.out (by decide)) (fun _ hk=>hk.2) (.slice d0 a3.length c5)) (fun _ hk=>hk.2) (.slice d1 a4.length c9)) (fun _ h_=>h_.1))):p:=h
theorem zq275 (h:p:=by (with_reducible repeat(first|apply Kd.Q_alloc|apply Kd.Q_drewN|apply Kd.Q_drew));exact b4.out):p:=h
theorem zq284 (h:p:=by repeat(first|exact HB3.out|apply pw_below_drewN|apply below_drew1)):p:=h
theorem zq292 (h:p:=by repeat(first|exact(Kd.C_below a4.out HB.out)|(with_reducible refine Kd.C_alloc ?_ _)|(with_reducible refine Kd.C_drewN ?_ _)|(with_reducible refine Kd.C_drew ?_))):p:=h
theorem zq301 (h:p:=by (with_reducible repeat(first|apply Kd.R_alloc|apply Kd.R_drewN|apply Kd.R_drew));exact b8.out):p:=h
theorem zq302 (h:p:=by (with_reducible repeat(first|apply Kd.R_alloc|apply Kd.R_drewN|apply Kd.R_drew));exact a7.out):p:=h
theorem zq303 (h:p:=by repeat(first|exact HB2.out|apply pw_below_drewN|apply below_drew1)):p:=h
theorem zq311 (h:p:=by (with_reducible repeat(first|refine blk_drewN ?_ _|refine blk_drew ?_|refine blk_alloc ?_ _));exact a3.out):p:=h
theorem zq333 (h:p:=by repeat(first|(with_reducible first|exact HB.out|apply below_alloc|apply pw_below_drewN|apply below_drew1|refine below_set ?_ (IsS87.ge a0.out)|refine below_set ?_ c3.out)|exact HB.out)):p:=h
theorem zq336 (h:p:=by repeat(first|exact Below.refl _ _|apply pw_below_drewN|apply below_drew1)):p:=h
theorem zq340 (h:p:=by (try simp only [List.map_toArray, List.map_cons, List.map_nil]); first | done | rfl):p:=h
theorem zq341 (h:p:=by repeat(first|exact(Kd.C_below a7.out HB.out)|(with_reducible refine Kd.C_alloc ?_ _)|(with_reducible refine Kd.C_drewN ?_ _)|(with_reducible refine Kd.C_drew ?_))):p:=h
theorem zq346 (h:p:=by repeat(first|(with_reducible first|exact a0.out|apply IsS87.alloc|apply IsS87.drewN|apply IsS87.drew|apply IsS87.set_1|refine IsS87.far ?_ a7.out _)|exact a0.out)):p:=h
theorem zq347 (h:p:=by repeat(first|exact(Kd.C_below e1.out HB.out)|(with_reducible refine Kd.C_alloc ?_ _)|(with_reducible refine Kd.C_drewN ?_ _)|(with_reducible refine Kd.C_drew ?_))):p:=h
theorem zq352 (h:p:=by first|rfl|(simp [errW_none,errW_some] <;> rfl)|(simp only [← d4];first|rfl|(simp [errW_none,errW_some] <;> rfl))|(simp [*,errW_none,errW_some] <;> rfl)):p:=h
theorem zq354 (h:p:=by (try simp only [List.map_toArray,List.map_cons,List.map_nil]);first|done|(simp only [c8];rfl)|rfl|(simp only [List.length_drop,List.length_take];rfl)):p:=h
theorem zq384 (h:p:=by first|go_num|(rw [wrap_small (by omega) (by have:=HLT.out;have:=HLEN3.out;have:=HLEN2.out;omega)];go_num)):p:=h
theorem zq389 (h:p:=by (with_reducible repeat(first|apply Kd.R_alloc|apply Kd.R_drewN|apply Kd.R_drew));exact e3.out):p:=h
theorem zq404 (h:p:=by first|go_num|(rw [wrap_small (by omega) (by have:=HLT.out;have:=HM3.out;omega)];go_num)):p:=h
theorem zq405 (h:p:=by first | (rw [← HSI.out]; exact HJj.out) | (rw [← HSI.out]; exact HD.out _ _ _ HJj.out)):p:=h
theorem zq414 (h:p:=by repeat(first|exact HUC.out|(refine Kd.C_drewN ?_ _)|(refine Kd.C_drew ?_))):p:=h
end Go.Proofs.Ytdoomkcgdcfmlaa
end
section
namespace Oml
universe u
namespace OL
variable {α : Type u} (L : OL α)
theorem join_eq_r (a b : α) : L.join a b = b ↔ L.le a b := by
  constructor
  · intro h; rw [← h]; exact L.join_l _ _
  · intro h; exact L.le_antisymm _ _ (L.join_le _ _ _ h (L.le_refl _)) (L.join_r _ _)
theorem join_self (a : α) : L.join a a = a := (L.join_eq_r a a).2 (L.le_refl _)
theorem neg_top : L.neg L.top = L.bot := L.neg_neg _
variable {L}
structure State (L : OL α) (s : α → Bool) : Prop where
  top : s L.top = true
  neg : ∀ a, s (L.neg a) = !s a
  join : ∀ a b, L.le a (L.neg b) → s (L.join a b) = (s a || s b) ∧ (s a && s b) = false
theorem State.bot {s : α → Bool} (S : L.State s) : s L.bot = false := by
  have := S.neg L.top; rw [L.neg_top, S.top] at this; exact this
end OL
end Oml
end
section
namespace Oml
theorem allN_false {n : Nat} {p : Nat → Bool} : allN n p = false ↔ ∃ i, i < n ∧ p i = false := by
  rw [← Bool.not_eq_true,allN_iff]
  constructor
  · intro h
    apply Classical.byContradiction
    intro k
    exact h fun i hi => by
      cases e:p i
      · exact absurd ⟨i,hi,e⟩ k
      · rfl
  · rintro ⟨i, hi, e⟩ h
    rw [h i hi] at e
    exact absurd e (by simp)
section
variable {U : List (List Int)} {N : List Int} (L : Logic U N)
theorem Logic.ng_eq (a : Fin U.length) : at1 N a = ((L.ng a).1 : Int) := by
  have := L.ran a a.2
  show at1 N a = (((at1 N a).toNat : Nat) : Int)
  omega
include L in
end
end Oml
end
section
namespace Go.Proofs.Ytdoomkcgdcfmlaa.Print
open Go.RowKit Go.Proofs.YtdoomkcgdcfmlaaW.PrintWords Go.Proofs.YtdoomkcgdcfmlaaW.PrintLast Go.Proofs.YtdoomkcgdcfmlaaW.PrintMore
open Oml
def inR (n : Nat) (a : Int) : Bool := decide (0 ≤ a) && decide (a < (n : Int))
theorem inR_iff {U : List (List Int)} {a : Int} : inR U.length a = true ↔ In U a := by simp [inR, In]
def leI (U : List (List Int)) (a b : Int) : Bool := leB U a.toNat b.toNat
section
variable {U : List (List Int)} {N : List Int} (L : Logic U N)
include L
theorem _root_.Oml.Logic.in_or {a b : Int} (ha : In U a) (hb : In U b) : In U (orI U a b) := by
  obtain⟨m,hm⟩:=Option.isSome_iff_exists.1 (L.joins a.toNat b.toNat (by have:=ha.1;have:=ha.2;omega) (by have:=hb.1;have:=hb.2;omega))
  have:=(findN_some hm).1
  unfold In orI jI;rw [hm];simp only [optI];omega
theorem _root_.Oml.Logic.in_not {a : Int} (ha : In U a) : In U (notI N a) := L.ran a.toNat (by have := ha.1; have := ha.2; omega)
theorem _root_.Oml.Logic.in_no : In U (noI U) := by
  obtain ⟨m, hm⟩ := L.least_some
  have := (findN_some hm).1
  unfold In noI; rw [hm]; simp only [optI]; omega
theorem _root_.Oml.Logic.in_yes : In U (yesI U N) := L.in_not L.in_no
theorem _root_.Oml.Logic.le_val {a b : Int} (ha : In U a) (hb : In U b) : at2 U a.toNat b.toNat = if leI U a b = true then 1 else 0 :=
  L.toOrder.val (by have := ha.1; have := ha.2; omega) (by have := hb.1; have := hb.2; omega)
end
namespace View
section
variable {W W1 : World} {g : Nat} {U : List (List Int)} {N : List Int} {v : Adr} (h : View W g U N v)
include h
theorem f4 : W.cell? ⟨g, 4, none⟩ = some (.int .i64 (noI U)) := (blk_cell h.blk 4).trans rfl
theorem f5 : W.cell? ⟨g, 5, none⟩ = some (.int .i64 (yesI U N)) := (blk_cell h.blk 5).trans rfl
theorem rowsU (L : Logic U N) : Kd.C (Kd.slice 3 (Kd.int .i64)) W (some v.aU) U.length U := by
  have hs:=L.small
  refine⟨rfl,by omega,fun _=>⟨v.aU,rfl,fun j p hp=>?_⟩⟩
  have hj:j<U.length:=(List.getElem?_eq_some_iff.1 hp).1
  have hin:In U (j:Int):=⟨by omega,by omega⟩
  have hpl : p.length = U.length := by
    have:=L.row j hj
    rw [List.getD_eq_getElem?_getD,hp] at this
    exact this
  refine⟨[.slice (some (v.rU j)) p.length (v.qU j)],rfl,⟨some (v.rU j),v.qU j,rfl,by rw [hpl];have:=h.capR _ hin;simpa using this,?_⟩,fun i u hu=>?_⟩
  · refine ⟨rfl, by omega, fun _ => ⟨v.rU j, rfl, fun i q hq => ?_⟩⟩
    have hi:i<p.length:=(List.getElem?_eq_some_iff.1 hq).1
    refine⟨[.int .i64 q],rfl,rfl,fun z u hu=>?_⟩
    have hz : z = 0 := by
      rcases z with _|z
      · rfl
      · simp at hu
    subst hz
    have hu':Value.int .i64 q=u:=by simpa using hu
    subst hu'
    have:=h.u2 j i hin ⟨by omega,by omega⟩
    simp only [Int.toNat_natCast] at this
    show W.cell? ((v.rU j).add (i*1+0))=_
    rw [Nat.mul_one,Nat.add_zero,this]
    simp [at2,List.getD_eq_getElem?_getD,hp,hq]
  · have hz : i = 0 := by
      rcases i with _|z
      · rfl
      · simp at hu
    subst hz
    have hu':Value.slice (some (v.rU j)) p.length (v.qU j)=u:=by simpa using hu
    subst hu'
    have:=h.u j hin
    simp only [Int.toNat_natCast] at this
    show W.cell? (v.aU.add (j*1+0))=_
    rw [Nat.mul_one,Nat.add_zero,this,hpl]
end
end View
end Go.Proofs.Ytdoomkcgdcfmlaa.Print
end
section
namespace Go.Proofs.Ytdoomkcgdcfmlaa.Print
open Go.RowKit Go.Proofs.YtdoomkcgdcfmlaaW.PrintWords Go.Proofs.YtdoomkcgdcfmlaaW.PrintLast Go.Proofs.YtdoomkcgdcfmlaaW.PrintMore
open Oml
theorem lit_C (W : World) (e : TypeId) (xs : List Int) (hm : xs.length ≤ 9223372036854775807) :
    Kd.C (Kd.int .i64) (W.alloc (.cells (nums .i64 xs).toArray e)) (some ⟨W.heap.size,0,none⟩) xs.length xs:=
  (Kd.R_reads' (Kd.R_of_own (ok:=fun _=>True) (own_lit W W.heap.size e .i64 xs (Nat.le_refl _) hm) (fun _ _=>trivial))).2.2
theorem isAnswer_eq (U : List (List Int)) (a : Int) : impl_isAnswer.f U a = some (inR U.length a) := by
  unfold impl_isAnswer.f inR
  by_cases h : a ≥ 0
  · rw [if_pos h]; simp [h]
  · rw [if_neg h]; simp; omega
theorem knows_nil (A : Option Addr) (n c : Nat) (w : World) :
    Calls Try.prog 78 #[.pointer none, .slice A n c] w fun e w' => e = .returned (.bool false) ∧ Below w.heap.size w w' := by
  go_enter Try.func78, Try.ntmps78
  go_wp2_with fail
  go_ret
  exact ⟨rfl, Below.refl _ _⟩
set_option maxHeartbeats 1000000 in
theorem knows_calls (g : Nat) (U : List (List Int)) (N : List Int) (v : Adr) (w : World) (L : Logic U N) (hV : View w g U N v) (A : Option Addr) (c : Nat) (xs : List Int) (n : Nat) (hn : xs.length = n)
    (hr:Kd.C (Kd.int .i64) w A n xs) (hs:n≤100) (b:Bool) (hb:xs.all (inR U.length)=b):
    Calls Try.prog 78 #[.pointer (some ⟨g,0,none⟩),.slice A n c] w fun e w'=>e= .returned (.bool b)∧Below w.heap.size w w':=by
  have hu70:=Try.underlying70
  have HV:=Aside0.mk hV
  have HR:=Aside0.mk hr
  have HL:=Aside0.mk L
  have HN:=Aside0.mk hn
  have HBB:=Aside0.mk hb
  clear hV hr L hn hb
  go_enter Try.func78,Try.ntmps78
  go_wp2_with fail
  go_loopg [11] (n+1) (fun kq v11 W=> ∃i m:Nat,v11= .int .i64 i∧Aside0 (i+kq=n+1)∧Aside0 (i≤n)∧Aside0 (∀j,j<i→inR U.length (at1 xs j)=true)∧W=w.drewN m)
  case atStart=>exact⟨0,0,rfl,⟨by omega⟩,⟨by omega⟩,⟨fun j hj=>absurd hj (by omega)⟩,rfl⟩
  case round =>
    obtain⟨i,m,rfl,HK,HK2,HS,rfl⟩:=hrel
    cases gk with
    |zero=>exact absurd HK.out (by have:=HK2.out;omega)
    |succ kn=>
    by_cases hlt:i<n
    · have hlt' : decide (i < n) = true := decide_eq_true hlt
      have HLT:=Aside0.mk hlt
      obtain⟨ad,e,hx⟩:=ints_cell HR.out i (by omega) (by omega)
      subst e
      simp only [Int.toNat_natCast] at hx
      have p1:(i<n)=True:=eq_true hlt
      have h0:=HV.out.f0
      have HUC:=Aside0.mk (HV.out.rowsU HL.out)
      clear hlt
      cases hi:inR U.length (at1 xs i) with
      | true =>
        have HI:=Aside0.mk hi
        have HA:=Aside0.mk (show impl_isAnswer.f U (at1 xs i)=some true by rw [isAnswer_eq,hi])
        clear hi
        go_wp2_with (go_at_call 123;(with_reducible refine(impl_isAnswer.calls _ _ U (at1 xs i) true _ ?s1 ?s2 HA.out).mono ?_);(case s1=> exact zq414);(case s2=>exact HV.out.capU);rintro e w' ⟨rfl,⟨nd,rfl⟩⟩)
        go_roundg kn
        case measure=>omega
        case rel => exact ⟨i + 1, _, by first | go_num | (rw [wrap_small (by omega) (by have := HLT.out; omega)]; go_num), ⟨by have := HK.out; omega⟩, ⟨by have := HLT.out; omega⟩, ⟨fun j hj => by
          rcases Nat.lt_or_ge j i with h|h
          · exact HS.out j h
          · obtain rfl : j = i := by omega
            exact HI.out⟩,rfl⟩
      | false =>
        have HI:=Aside0.mk hi
        have HA:=Aside0.mk (show impl_isAnswer.f U (at1 xs i)=some false by rw [isAnswer_eq,hi])
        clear hi
        have hbf : b = false := by
          rw [← HBB.out,Bool.eq_false_iff]
          intro h
          rw [List.all_eq_true] at h
          have hin:i<xs.length:=by have:=HN.out;have:=HLT.out;omega
          have:=h (xs[i]'hin) (List.getElem_mem _)
          have h2:=HI.out
          rw [show at1 xs i=xs[i]'hin by simp [at1,List.getD_eq_getElem?_getD,List.getElem?_eq_getElem hin],this] at h2
          exact absurd h2 (by simp)
        subst hbf
        go_wp2_with (go_at_call 123;(with_reducible refine(impl_isAnswer.calls _ _ U (at1 xs i) false _ ?s1 ?s2 HA.out).mono ?_);(case s1=> exact zq414);(case s2=>exact HV.out.capU);rintro e w' ⟨rfl,⟨nd,rfl⟩⟩)
        go_ret
        exact⟨rfl,zq336⟩
    · have hlt' : decide (i < n) = false := decide_eq_false hlt
      obtain rfl:i=n:=by have:=HK2.out;omega
      have hbt : b = true := by
        rw [← HBB.out,List.all_eq_true]
        intro x hx
        obtain⟨j,hj,rfl⟩:=List.mem_iff_getElem.1 hx
        have:=HS.out j (by have:=HN.out;omega)
        rwa [show at1 xs j=xs[j]'hj by simp [at1,List.getD_eq_getElem?_getD,List.getElem?_eq_getElem hj]] at this
      subst hbt
      clear hlt
      go_wp2_with fail
      go_ret
      exact⟨rfl,zq336⟩
theorem goesV_ {P : Program} {ops : Array Oper} {Q : Exit → Act → World → Prop} {rest : List Oper} {oi : Oper} {a : Act} {w : World} (N : Option Tmp) (hd : oi.dst = N) (hg : oi.guard = none) {f : FuncId} {fn : Func} {x : Operand} {xo : Array Operand} {ts : Array TypeId} {cs : Array Value}
    (hf : P.funcs[f]? = some fn) (hname : (fn.name == "runtime.NumGoroutine") = false) (hb : fn.body.isSome = true) (args : Array Value)
    (hop : oi.op = .call { callee := .value x, args := xo, argTypes := ts }) (hx : a.eval x = .func (.func f) #[] cs) (hargs : xo.map a.eval = args)
    (h : Calls P f (args ++ cs) w fun e w' => ∃ v, e = .returned v ∧ wpList P ops Q rest (a.put N v) w') : wpList P ops Q (oi :: rest) a w := by
  refine wpList_plain hg fun K hK => ?_
  have he := enters_ hf hname hb (args ++ cs) w
  have hrun : (execOp a.eval oi).run P w = .ok (.enter f (args ++ cs)) w := by
    unfold execOp
    simp [hop, resolve, Deferred.ofValue, invoke, hx, hargs, he]
  unfold Oper.wp
  rw [hrun, Oper.upon_enter]
  refine h.mono fun e w'' hh => ?_
  obtain ⟨v, rfl, hk⟩ := hh
  subst hd
  exact hK _ _ hk
set_option maxHeartbeats 1000000 in
set_option maxRecDepth 100000 in
theorem every_calls (g : Nat) (U : List (List Int)) (N : List Int) (v : Adr) (w : World) (hs : U.length ≤ 12) (fv : Nat) (fn : Func) (cs : Array Value) (hf : Try.prog.funcs[fv]? = some fn) (hname : (fn.name == "runtime.NumGoroutine") = false) (hb : fn.body.isSome = true)
    (p : Nat → Nat → Bool) (J : Nat → World → Prop) (hV : ∀ i w', J i w' → View w' g U N v) (hD : ∀ i w' n, J i w' → J i (w'.drewN n)) (h0 : J 0 w)
    (step : ∀ a b : Nat, a < U.length → b < U.length → ∀ w', J (a * U.length + b) w' → Calls Try.prog fv (#[.int .i64 a, .int .i64 b] ++ cs) w' fun e w'' => e = .returned (.bool (p a b)) ∧ J (a * U.length + b + 1) w'') :
    Calls Try.prog 87 #[.pointer (some ⟨g, 0, none⟩), .func (.func fv) #[] cs] w fun e w' =>
      e = .returned (.bool (allN U.length fun a => allN U.length fun b => p a b)) ∧ ∃ i, J i w' ∧ ((allN U.length fun a => allN U.length fun b => p a b) = true → i = U.length * U.length) := by
  obtain ⟨r, hr⟩ : ∃ r, r = allN U.length fun a => allN U.length fun b => p a b := ⟨_, rfl⟩
  rw [← hr]
  have hu70 := Try.underlying70
  have HF := Aside0.mk hf
  have HNM := Aside0.mk hname
  have HBD := Aside0.mk hb
  have HV := Aside0.mk hV
  have HD := Aside0.mk hD
  have HJ0 := Aside0.mk h0
  have HST := Aside0.mk step
  have HR := Aside0.mk hr
  have hf0 := (hV 0 w h0).f0
  clear hf hname hb hV hD h0 step hr
  go_enter Try.func87, Try.ntmps87
  go_wp2_with fail
  go_loopg [12] (U.length + 1) (fun kq v12 W => ∃ i s : Nat, v12 = .int .i64 i ∧ Aside0 (i + kq = U.length + 1) ∧ Aside0 (i ≤ U.length) ∧ Aside0 (s = i * U.length) ∧ Aside0 (∀ a, a < i → ∀ b, b < U.length → p a b = true) ∧ Aside0 (J s W))
  case atStart => exact ⟨0, 0, rfl, ⟨by omega⟩, ⟨by omega⟩, ⟨by simp⟩, ⟨fun j hj => absurd hj (by omega)⟩, ⟨by first | exact HJ0.out | exact HD.out _ _ _ HJ0.out⟩⟩
  case round =>
    clear hf0
    obtain ⟨i, s, rfl, HK, HK2, HSI, HS, HJ⟩ := hrel
    have hf0 := (HV.out _ _ HJ.out).f0
    cases gk with
    | zero => exact absurd HK.out (by have := HK2.out; omega)
    | succ kn =>
    by_cases hlt : i < U.length
    · have hlt' : decide (i < U.length) = true := decide_eq_true hlt
      have HLT := Aside0.mk hlt
      clear hlt
      go_wp2_with fail
      go_loopg [20] (U.length + 1) (fun kq v20 W => ∃ j : Nat, v20 = .int .i64 j ∧ Aside0 (j + kq = U.length + 1) ∧ Aside0 (j ≤ U.length) ∧ Aside0 (∀ b, b < j → p i b = true) ∧ Aside0 (J (s + j) W))
      case atStart => exact ⟨0, rfl, ⟨by omega⟩, ⟨by omega⟩, ⟨fun j hj => absurd hj (by omega)⟩, ⟨by first | exact HJ.out | exact HD.out _ _ _ HJ.out⟩⟩
      case round =>
        clear hf0
        obtain ⟨j, rfl, HKj, HKj2, HSj, HJj⟩ := hrel
        cases gk with
        | zero => exact absurd HKj.out (by have := HKj2.out; omega)
        | succ kj =>
        by_cases hlj : j < U.length
        · have hlj' : decide (j < U.length) = true := decide_eq_true hlj
          have HLJ := Aside0.mk hlj
          clear hlj
          cases hp : p i j with
          | true =>
            have HP := Aside0.mk hp
            clear hp
            go_wp2_with (refine goesV_ (some 26) rfl rfl HF.out HNM.out HBD.out #[.int .i64 i, .int .i64 j] rfl rfl zq340 ?_; refine (HST.out i j HLT.out HLJ.out _ ?sJ).mono ?_; (case sJ => exact zq405); rintro e w1 ⟨he, hj⟩; rw [HP.out] at he; subst he; refine ⟨_, rfl, ?_⟩; have HJ1 := Aside0.mk hj; clear hj)
            go_roundg kj
            case measure => omega
            case rel => exact ⟨j + 1, by first | go_num | (rw [wrap_small (by omega) (by have := HLJ.out; omega)]; go_num), ⟨by have := HKj.out; omega⟩, ⟨by have := HLJ.out; omega⟩, ⟨fun b hb => by
              rcases Nat.lt_or_ge b j with h | h
              · exact HSj.out b h
              · obtain rfl : b = j := by omega
                exact HP.out⟩, ⟨by have h1 := HJ1.out; rw [← HSI.out, Nat.add_assoc] at h1; first | exact h1 | exact HD.out _ _ _ h1⟩⟩
          | false =>
            have HP := Aside0.mk hp
            clear hp
            have hrf : r = false := by
              rw [HR.out]
              exact allN_false.2 ⟨i, HLT.out, allN_false.2 ⟨j, HLJ.out, HP.out⟩⟩
            subst hrf
            go_wp2_with (refine goesV_ (some 26) rfl rfl HF.out HNM.out HBD.out #[.int .i64 i, .int .i64 j] rfl rfl zq340 ?_; refine (HST.out i j HLT.out HLJ.out _ ?sJ).mono ?_; (case sJ => exact zq405); rintro e w1 ⟨he, hj⟩; rw [HP.out] at he; subst he; refine ⟨_, rfl, ?_⟩; have HJ1 := Aside0.mk hj; clear hj)
            go_ret
            exact ⟨rfl, _, by first | exact HJ1.out | exact HD.out _ _ _ HJ1.out, fun h => by cases h⟩
        · have hlj' : decide (j < U.length) = false := decide_eq_false hlj
          obtain rfl : j = U.length := by have := HKj2.out; omega
          clear hlj
          go_wp2_with fail
          go_roundg kn
          case measure => omega
          case rel => exact ⟨i + 1, s + U.length, by first | go_num | (rw [wrap_small (by omega) (by have := HLT.out; omega)]; go_num), ⟨by have := HK.out; omega⟩, ⟨by have := HLT.out; omega⟩, ⟨by rw [Nat.succ_mul, HSI.out]⟩, ⟨fun a ha => by
            rcases Nat.lt_or_ge a i with h | h
            · exact HS.out a h
            · obtain rfl : a = i := by omega
              exact HSj.out⟩, ⟨by first | exact HJj.out | exact HD.out _ _ _ HJj.out⟩⟩
    · have hlt' : decide (i < U.length) = false := decide_eq_false hlt
      obtain rfl : i = U.length := by have := HK2.out; omega
      have hrt : r = true := by
        rw [HR.out, allN_iff]
        intro a ha
        exact allN_iff.2 (HS.out a ha)
      subst hrt
      clear hlt
      go_wp2_with fail
      go_ret
      have hj := HJ.out
      rw [HSI.out] at hj
      exact ⟨rfl, by first | exact hj | exact HD.out _ _ _ hj⟩
theorem every_pure (g : Nat) (U : List (List Int)) (N : List Int) (v : Adr) (w : World) (hs : U.length ≤ 12) (hV : View w g U N v) (fv : Nat) (fn : Func) (cs : Array Value) (hf : Try.prog.funcs[fv]? = some fn) (hname : (fn.name == "runtime.NumGoroutine") = false) (hb : fn.body.isSome = true)
    (p : Nat → Nat → Bool) (step : ∀ a b : Nat, a < U.length → b < U.length → ∀ W, Below w.heap.size w W → Calls Try.prog fv (#[.int .i64 a, .int .i64 b] ++ cs) W fun e w'' => e = .returned (.bool (p a b)) ∧ Below W.heap.size W w'') :
    Calls Try.prog 87 #[.pointer (some ⟨g, 0, none⟩), .func (.func fv) #[] cs] w fun e w' => e = .returned (.bool (allN U.length fun a => allN U.length fun b => p a b)) ∧ Below w.heap.size w w' := by
  refine (every_calls g U N v w hs fv fn cs hf hname hb p (fun _ W => Below w.heap.size w W) (fun _ W h => hV.below h) (fun _ W n h => pw_below_drewN h n) (Below.refl _ _) (fun a b ha hb' W hW => ?_)).mono ?_
  · refine (step a b ha hb' W hW).mono ?_
    rintro e w2 ⟨rfl, h2⟩
    exact ⟨rfl, below_step hW h2⟩
  · rintro e w2 ⟨rfl, i, h2, _⟩
    exact ⟨rfl, h2⟩
def filI (n : Nat) (p : Nat → Bool) : List Int := ((List.range n).filter p).map fun (a : Nat) => (a : Int)
theorem filI_zero (p : Nat → Bool) : filI 0 p = [] := rfl
theorem filI_succ (n : Nat) (p : Nat → Bool) : filI (n + 1) p = if p n = true then filI n p ++ [(n : Int)] else filI n p := by
  unfold filI
  rw [List.range_succ, List.filter_append, List.map_append]
  cases h : p n <;> simp [h]
theorem filI_length (n : Nat) (p : Nat → Bool) : (filI n p).length ≤ n := by
  unfold filI
  rw [List.length_map]
  exact Nat.le_trans (List.length_filter_le _ _) (by simp)
end Go.Proofs.Ytdoomkcgdcfmlaa.Print
end
section
namespace Go.Proofs.Ytdoomkcgdcfmlaa.Print
open Go.RowKit Go.Proofs.YtdoomkcgdcfmlaaW.PrintWords Go.Proofs.YtdoomkcgdcfmlaaW.PrintLast Go.Proofs.YtdoomkcgdcfmlaaW.PrintMore
def spec_l2Both.f (k : Nat) (l0_0 : List (List Int)) (l0_1 : List Int) (a1 : Int) (a2 : Int) : Option (Bool) := (spec_LogicOk.f k l0_0 l0_1).bind fun t601 => (if t601 = true then ((spec_l1In.f a1 0 (wrap64 ((l0_1.length : Int) - 1))).bind fun t602 => (if t602 = true then ((spec_l1In.f a2 0 (wrap64 ((l0_1.length : Int) - 1))).bind fun t603 => (some t603)) else (some false))) else (some false))
set_option maxHeartbeats 8000000 in
set_option maxRecDepth 100000 in
theorem spec_l2Both.calls (k : Nat) (A0_0 : Option Addr) (c0_0 : Nat) (l0_0 : List (List Int)) (A0_1 : Option Addr) (c0_1 : Nat) (l0_1 : List Int) (a1 : Int) (a2 : Int) (r : Bool) (w : World) (hr0_0 : Kd.C (Kd.slice 3 (Kd.int .i64)) w A0_0 l0_0.length l0_0) (hc0_0 : l0_0.length ≤ c0_0) (hr0_1 : Kd.C (Kd.int .i64) w A0_1 l0_1.length l0_1) (hc0_1 : l0_1.length ≤ c0_1) (h : spec_l2Both.f k l0_0 l0_1 a1 a2 = some r) :
  Calls Try.prog 80 #[.agg #[.slice A0_0 l0_0.length c0_0, .slice A0_1 l0_1.length c0_1], .int .i64 a1, .int .i64 a2] w fun e w' => e = .returned (.bool r) ∧ Below w.heap.size w w' := by
 have hu30:=Try.underlying30;have a8:=zqm hr0_0;have a9:=zqm hc0_0;clear hr0_0 hc0_0;have b0:=zqm hr0_1;have b1:=zqm hc0_1;clear hr0_1 hc0_1;have HB:=zqm (Below.refl w.heap.size w);have H:((spec_LogicOk.f k l0_0 l0_1).bind fun b2=>(if b2=true then((spec_l1In.f a1 0 (wrap64 ((l0_1.length:Int) - 1))).bind fun a6=>(if a6=true then((spec_l1In.f a2 0 (wrap64 ((l0_1.length:Int) - 1))).bind fun a4=>(some a4)) else(some false))) else(some false)))=some r:=h;clear h;replace H:=Option.bind_eq_some_iff.mp H;obtain⟨b2,b4,H⟩:=H;replace H:(if b2=true then((spec_l1In.f a1 0 (wrap64 ((l0_1.length:Int) - 1))).bind fun a6=>(if a6=true then((spec_l1In.f a2 0 (wrap64 ((l0_1.length:Int) - 1))).bind fun a4=>(some a4)) else(some false))) else(some false))=some r:=H;have A4:=zqm b4;clear b4
 by_cases c5:b2=true
 ·subst c5;(have H1:((spec_l1In.f a1 0 (wrap64 ((l0_1.length:Int) - 1))).bind fun a6=>(if a6=true then((spec_l1In.f a2 0 (wrap64 ((l0_1.length:Int) - 1))).bind fun a4=>(some a4)) else(some false)))=some r:=by rw [if_pos rfl] at H;exact H);clear H;have H:=H1;clear H1;replace H:=Option.bind_eq_some_iff.mp H;obtain⟨a6,b5,H⟩:=H;replace H:(if a6=true then((spec_l1In.f a2 0 (wrap64 ((l0_1.length:Int) - 1))).bind fun a4=>(some a4)) else(some false))=some r:=H;have A6:=zqm b5;clear b5
  by_cases c7:a6=true
  ·subst c7;(have H1:((spec_l1In.f a2 0 (wrap64 ((l0_1.length:Int) - 1))).bind fun a4=>(some a4))=some r:=by rw [if_pos rfl] at H;exact H);clear H;have H:=H1;clear H1;replace H:=Option.bind_eq_some_iff.mp H;obtain⟨a4,b6,H⟩:=H;replace H:(some a4)=some r:=H;have A8:=zqm b6;clear b6;obtain rfl:=Option.some.inj H
   go_enter Try.func80,Try.ntmps80
   go_wp2_with (first|((with_reducible refine gate_dst (N:=3) rfl ?_);(try(refine gate_guard (by rfl) ?_;dsimp only));refine box_event ?hg (N:=3) ?hd (cs:= #[.slice A0_0 l0_0.length c0_0,.slice A0_1 l0_1.length c0_1]) (t:=30) ?hr ?_;(case hd=>rfl);(case hg=>rfl);(case hr=>first|(go_simp;done)|(go_simp;rfl));intro a3 hg w9 hbox hb;have a7:=zqm (below_step zq0 hb);have a0:=zqm (hbox);have b3:=zqm ((by rw [hg];exact(below_size zq0):w.heap.size≤a3));have a5:=zqm ((by rw [hg];exact(below_size zq0):w.heap.size≤a3));clear HB;have HB:=a7;clear a7 hb hbox hg;have c1:w9.cell? ⟨a3,0,none⟩=some (.slice A0_0 l0_0.length c0_0):=(blk_cell a0.out 0).trans rfl;have c2:w9.cell? ⟨a3,1,none⟩=some (.slice A0_1 l0_1.length c0_1):=(blk_cell a0.out 1).trans rfl;have c3:=blk_frozen a0.out 0;have c4:=blk_frozen a0.out 1)|((with_reducible refine gate_callee (f:=42) rfl ?_);refine goesL_ (some 8) rfl rfl Try.func42 zqk rfl #[.agg #[.slice A0_0 l0_0.length c0_0,.slice A0_1 l0_1.length c0_1]] rfl zq1 ?_;(with_reducible refine(spec_LogicOk.calls k _ _ l0_0 _ _ l0_1 true _ ?side1 ?side2 ?side3 ?side4 A4.out).mono ?_);(case side1=> exact zq26);(case side2=>exact a9.out);(case side3=> exact zq45);(case side4=>exact b1.out);rintro e b7 ⟨rfl,hb⟩;refine⟨_,rfl,?_⟩;replace a0:=zqm (blk_below (g:=a3) (o:= .cells #[.slice A0_0 l0_0.length c0_0,.slice A0_1 l0_1.length c0_1] 30 (0,0)) zq2 hb);replace HB:=zqm (below_step zq18 hb);clear hb;have c6:b7.cell? ⟨a3,0,none⟩=some (.slice A0_0 l0_0.length c0_0):=(blk_cell a0.out 0).trans rfl;have c8:b7.cell? ⟨a3,1,none⟩=some (.slice A0_1 l0_1.length c0_1):=(blk_cell a0.out 1).trans rfl;have c9:=blk_frozen a0.out 0;have d0:=blk_frozen a0.out 1)|(go_at_call 94;(with_reducible refine(spec_l1In.calls a1 0 (wrap64 ((l0_1.length:Int) - 1)) true _ A6.out).mono ?_);rintro e w' ⟨rfl,⟨nd,rfl⟩⟩)|(go_at_call 94;(with_reducible refine(spec_l1In.calls a2 0 (wrap64 ((l0_1.length:Int) - 1)) a4 _ A8.out).mono ?_);rintro e w' ⟨rfl,⟨nd,rfl⟩⟩))
   go_ret
   exact⟨zq11,zq18⟩
  ·replace c7:=Bool.eq_false_iff.mpr c7;subst c7;(have H1:(some false)=some r:=by rw [if_neg (show¬(false=true) by decide)] at H;exact H);clear H;have H:=H1;clear H1;obtain rfl:=Option.some.inj H
   go_enter Try.func80,Try.ntmps80
   go_wp2_with (first|((with_reducible refine gate_dst (N:=3) rfl ?_);(try(refine gate_guard (by rfl) ?_;dsimp only));refine box_event ?hg (N:=3) ?hd (cs:= #[.slice A0_0 l0_0.length c0_0,.slice A0_1 l0_1.length c0_1]) (t:=30) ?hr ?_;(case hd=>rfl);(case hg=>rfl);(case hr=>first|(go_simp;done)|(go_simp;rfl));intro a3 hg b8 hbox hb;have a7:=zqm (below_step zq0 hb);have a0:=zqm (hbox);have b3:=zqm ((by rw [hg];exact(below_size zq0):w.heap.size≤a3));have a5:=zqm ((by rw [hg];exact(below_size zq0):w.heap.size≤a3));clear HB;have HB:=a7;clear a7 hb hbox hg;have d1:b8.cell? ⟨a3,0,none⟩=some (.slice A0_0 l0_0.length c0_0):=(blk_cell a0.out 0).trans rfl;have d2:b8.cell? ⟨a3,1,none⟩=some (.slice A0_1 l0_1.length c0_1):=(blk_cell a0.out 1).trans rfl;have d3:=blk_frozen a0.out 0;have d4:=blk_frozen a0.out 1)|((with_reducible refine gate_callee (f:=42) rfl ?_);refine goesL_ (some 8) rfl rfl Try.func42 zqk rfl #[.agg #[.slice A0_0 l0_0.length c0_0,.slice A0_1 l0_1.length c0_1]] rfl zq1 ?_;(with_reducible refine(spec_LogicOk.calls k _ _ l0_0 _ _ l0_1 true _ ?side1 ?side2 ?side3 ?side4 A4.out).mono ?_);(case side1=> exact zq26);(case side2=>exact a9.out);(case side3=> exact zq45);(case side4=>exact b1.out);rintro e b9 ⟨rfl,hb⟩;refine⟨_,rfl,?_⟩;replace a0:=zqm (blk_below (g:=a3) (o:= .cells #[.slice A0_0 l0_0.length c0_0,.slice A0_1 l0_1.length c0_1] 30 (0,0)) zq2 hb);replace HB:=zqm (below_step zq18 hb);clear hb;have d5:b9.cell? ⟨a3,0,none⟩=some (.slice A0_0 l0_0.length c0_0):=(blk_cell a0.out 0).trans rfl;have d6:b9.cell? ⟨a3,1,none⟩=some (.slice A0_1 l0_1.length c0_1):=(blk_cell a0.out 1).trans rfl;have d7:=blk_frozen a0.out 0;have d8:=blk_frozen a0.out 1)|(go_at_call 94;(with_reducible refine(spec_l1In.calls a1 0 (wrap64 ((l0_1.length:Int) - 1)) false _ A6.out).mono ?_);rintro e w' ⟨rfl,⟨nd,rfl⟩⟩))
   go_ret
   exact⟨zq11,zq18⟩
 ·replace c5:=Bool.eq_false_iff.mpr c5;subst c5;(have H1:(some false)=some r:=by rw [if_neg (show¬(false=true) by decide)] at H;exact H);clear H;have H:=H1;clear H1;obtain rfl:=Option.some.inj H
  go_enter Try.func80,Try.ntmps80
  go_wp2_with (first|((with_reducible refine gate_dst (N:=3) rfl ?_);(try(refine gate_guard (by rfl) ?_;dsimp only));refine box_event ?hg (N:=3) ?hd (cs:= #[.slice A0_0 l0_0.length c0_0,.slice A0_1 l0_1.length c0_1]) (t:=30) ?hr ?_;(case hd=>rfl);(case hg=>rfl);(case hr=>first|(go_simp;done)|(go_simp;rfl));intro a3 hg c0 hbox hb;have a7:=zqm (below_step zq0 hb);have a0:=zqm (hbox);have b3:=zqm ((by rw [hg];exact(below_size zq0):w.heap.size≤a3));have a5:=zqm ((by rw [hg];exact(below_size zq0):w.heap.size≤a3));clear HB;have HB:=a7;clear a7 hb hbox hg;have d9:c0.cell? ⟨a3,0,none⟩=some (.slice A0_0 l0_0.length c0_0):=(blk_cell a0.out 0).trans rfl;have e0:c0.cell? ⟨a3,1,none⟩=some (.slice A0_1 l0_1.length c0_1):=(blk_cell a0.out 1).trans rfl;have e1:=blk_frozen a0.out 0;have e2:=blk_frozen a0.out 1)|((with_reducible refine gate_callee (f:=42) rfl ?_);refine goesL_ (some 8) rfl rfl Try.func42 zqk rfl #[.agg #[.slice A0_0 l0_0.length c0_0,.slice A0_1 l0_1.length c0_1]] rfl zq1 ?_;(with_reducible refine(spec_LogicOk.calls k _ _ l0_0 _ _ l0_1 false _ ?side1 ?side2 ?side3 ?side4 A4.out).mono ?_);(case side1=> exact zq26);(case side2=>exact a9.out);(case side3=> exact zq45);(case side4=>exact b1.out);rintro e e3 ⟨rfl,hb⟩;refine⟨_,rfl,?_⟩;replace a0:=zqm (blk_below (g:=a3) (o:= .cells #[.slice A0_0 l0_0.length c0_0,.slice A0_1 l0_1.length c0_1] 30 (0,0)) zq2 hb);replace HB:=zqm (below_step zq18 hb);clear hb))
  go_ret
  exact⟨zq11,zq18⟩
end Go.Proofs.Ytdoomkcgdcfmlaa.Print
end
section
namespace Go.Proofs.Ytdoomkcgdcfmlaa.Print
open Go.RowKit Go.Proofs.YtdoomkcgdcfmlaaW.PrintWords Go.Proofs.YtdoomkcgdcfmlaaW.PrintLast Go.Proofs.YtdoomkcgdcfmlaaW.PrintMore
open Oml
theorem spec_l2Both.ev (U : List (List Int)) (N : List Int) (a b : Int) : Ev (fun k => spec_l2Both.f k U N a b) (logicB U N && (inR U.length a && inR U.length b)) := by
  unfold spec_l2Both.f
  refine Ev.bind (spec_LogicOk.ev U N) ?_
  cases hl:logicB U N with
  | false => repeat (first | ((with_reducible refine Ev.ite_pos ?_ ?_); (first | assumption | (focus omega) | (focus (simp; done)))) | ((with_reducible refine Ev.ite_neg ?_ ?_); (first | assumption | (focus omega) | (focus (simp; done)))))
             exact Ev.now _
  | true =>
    have L:=logicB_iff.1 hl
    have hs:=L.small
    have hp:=L.pos
    have hln:=L.len
    have e : ∀ c : Int, (decide (0 ≤ c) && decide (c ≤ wrap64 ((N.length : Int) - 1))) = inR U.length c := by
      intro c
      unfold inR
      rw [wrap_small (by omega) (by omega)]
      congr 1
      rw [decide_eq_decide];omega
    repeat(first|((with_reducible refine Ev.ite_pos ?_ ?_);(first|assumption|(focus omega)|(focus (simp;done))))|((with_reducible refine Ev.ite_neg ?_ ?_);(first|assumption|(focus omega)|(focus (simp;done)))))
    simp only [l1In_eq,e]
    refine Ev.pbind rfl ?_
    cases ha:inR U.length a with
    | false => repeat (first | ((with_reducible refine Ev.ite_pos ?_ ?_); (first | assumption | (focus omega) | (focus (simp; done)))) | ((with_reducible refine Ev.ite_neg ?_ ?_); (first | assumption | (focus omega) | (focus (simp; done)))))
               exact Ev.eq (Ev.now _) (by simp)
    | true => repeat (first | ((with_reducible refine Ev.ite_pos ?_ ?_); (first | assumption | (focus omega) | (focus (simp; done)))) | ((with_reducible refine Ev.ite_neg ?_ ?_); (first | assumption | (focus omega) | (focus (simp; done)))))
              exact Ev.eq (Ev.now _) (by simp)
end Go.Proofs.Ytdoomkcgdcfmlaa.Print
end
section
namespace Go.Proofs.Ytdoomkcgdcfmlaa.Print
open Go.RowKit Go.Proofs.YtdoomkcgdcfmlaaW.PrintWords Go.Proofs.YtdoomkcgdcfmlaaW.PrintLast Go.Proofs.YtdoomkcgdcfmlaaW.PrintMore
def spec_NotOf.f (k : Nat) (l0_0 : List (List Int)) (l0_1 : List Int) (a1 : Int) : Option (Int) := (spec_l2Both.f k l0_0 l0_1 a1 a1).bind fun t849 => (if t849 = true then (if 0 ≤ a1 then (if a1 < (l0_1.length : Int) then (some (rd l0_1 a1)) else (none)) else (none)) else (some (-1)))
set_option maxHeartbeats 8000000 in
set_option maxRecDepth 100000 in
theorem spec_NotOf.calls (k : Nat) (A0_0 : Option Addr) (c0_0 : Nat) (l0_0 : List (List Int)) (A0_1 : Option Addr) (c0_1 : Nat) (l0_1 : List Int) (a1 : Int) (r : Int) (w : World) (hr0_0 : Kd.C (Kd.slice 3 (Kd.int .i64)) w A0_0 l0_0.length l0_0) (hc0_0 : l0_0.length ≤ c0_0) (hr0_1 : Kd.C (Kd.int .i64) w A0_1 l0_1.length l0_1) (hc0_1 : l0_1.length ≤ c0_1) (h : spec_NotOf.f k l0_0 l0_1 a1 = some r) :
  Calls Try.prog 96 #[.agg #[.slice A0_0 l0_0.length c0_0, .slice A0_1 l0_1.length c0_1], .int .i64 a1] w fun e w' => e = .returned (.int .i64 r) ∧ Below w.heap.size w w' := by
 have hu30:=Try.underlying30;have b0:=zqm hr0_0;have b1:=zqm hc0_0;clear hr0_0 hc0_0;have a5:=zqm hr0_1;have b2:=zqm hc0_1;clear hr0_1 hc0_1;have HB:=zqm (Below.refl w.heap.size w);have H:((spec_l2Both.f k l0_0 l0_1 a1 a1).bind fun a6=>(if a6=true then(if 0≤a1 then(if a1<(l0_1.length:Int) then(some (rd l0_1 a1)) else(none)) else(none)) else(some (-1))))=some r:=h;clear h;replace H:=Option.bind_eq_some_iff.mp H;obtain⟨a6,b4,H⟩:=H;replace H:(if a6=true then(if 0≤a1 then(if a1<(l0_1.length:Int) then(some (rd l0_1 a1)) else(none)) else(none)) else(some (-1)))=some r:=H;have A3:=zqm b4;clear b4
 by_cases c4:a6=true
 ·subst c4;(have H1:(if 0≤a1 then(if a1<(l0_1.length:Int) then(some (rd l0_1 a1)) else(none)) else(none))=some r:=by rw [if_pos rfl] at H;exact H);clear H;have H:=H1;clear H1
  by_cases c5:0≤a1
  ·rw [if_pos c5] at H;have d3:decide (0≤a1)=true:=decide_eq_true c5;clear c5
   by_cases c6:a1<(l0_1.length:Int)
   ·rw [if_pos c6] at H;have d4:decide (a1<(l0_1.length:Int))=true:=decide_eq_true c6;clear c6;obtain rfl:=Option.some.inj H
    go_enter Try.func96,Try.ntmps96
    go_wp2_with (first|((with_reducible refine gate_dst (N:=2) rfl ?_);refine box_event ?hg (N:=2) ?hd (cs:= #[.slice A0_0 l0_0.length c0_0,.slice A0_1 l0_1.length c0_1]) (t:=30) ?hr ?_;(case hd=>rfl);(case hg=>rfl);(case hr=>first|(go_simp;done)|(go_simp;rfl));intro a2 hg w7 hbox hb;have a7:=zqm (below_step zq0 hb);have a0:=zqm (hbox);have b3:=zqm ((by rw [hg];exact(below_size zq0):w.heap.size≤a2));have a3:=zqm ((by rw [hg];exact(below_size zq0):w.heap.size≤a2));clear HB;have HB:=a7;clear a7 hb hbox hg;have c8:w7.cell? ⟨a2,0,none⟩=some (.slice A0_0 l0_0.length c0_0):=(blk_cell a0.out 0).trans rfl;have c9:w7.cell? ⟨a2,1,none⟩=some (.slice A0_1 l0_1.length c0_1):=(blk_cell a0.out 1).trans rfl;have d0:=blk_frozen a0.out 0;have d1:=blk_frozen a0.out 1)|((with_reducible refine gate_callee (f:=80) rfl ?_);refine goesL_ (some 8) rfl rfl Try.func80 zqk rfl #[.agg #[.slice A0_0 l0_0.length c0_0,.slice A0_1 l0_1.length c0_1],.int .i64 a1,.int .i64 a1] rfl zq1 ?_;(with_reducible refine(spec_l2Both.calls k _ _ l0_0 _ _ l0_1 a1 a1 true _ ?side1 ?side2 ?side3 ?side4 A3.out).mono ?_);(case side1=> exact zq45);(case side2=>exact b1.out);(case side3=> exact zq38);(case side4=>exact b2.out);rintro e w9 ⟨rfl,hb⟩;refine⟨_,rfl,?_⟩;replace a0:=zqm (blk_below (g:=a2) (o:= .cells #[.slice A0_0 l0_0.length c0_0,.slice A0_1 l0_1.length c0_1] 30 (0,0)) zq2 hb);replace HB:=zqm (below_step zq21 hb);clear hb;have b7:w9.cell? ⟨a2,0,none⟩=some (.slice A0_0 l0_0.length c0_0):=(blk_cell a0.out 0).trans rfl;have b8:w9.cell? ⟨a2,1,none⟩=some (.slice A0_1 l0_1.length c0_1):=(blk_cell a0.out 1).trans rfl;have b9:=blk_frozen a0.out 0;have c0:=blk_frozen a0.out 1;have a8:0≤(a1:Int):=zqo;have a9:a1<(l0_1.length:Int):=zqo;obtain⟨d2,b6,a4⟩:=Kd.at_int a5.out a1 a8 a9;cases b6;replace a4:=(HB.out.cell (World.block_lt_of_cell? w _ a4)).trans a4;replace a8:=eq_true a8;replace a9:=eq_true a9))
    go_ret
    exact⟨zq11,zq21⟩
   ·rw [if_neg c6] at H;exact absurd H (by simp)
  ·rw [if_neg c5] at H;exact absurd H (by simp)
 ·replace c4:=Bool.eq_false_iff.mpr c4;subst c4;(have H1:(some (-1))=some r:=by rw [if_neg (show¬(false=true) by decide)] at H;exact H);clear H;have H:=H1;clear H1;obtain rfl:=Option.some.inj H
  go_enter Try.func96,Try.ntmps96
  go_wp2_with (first|((with_reducible refine gate_dst (N:=2) rfl ?_);refine box_event ?hg (N:=2) ?hd (cs:= #[.slice A0_0 l0_0.length c0_0,.slice A0_1 l0_1.length c0_1]) (t:=30) ?hr ?_;(case hd=>rfl);(case hg=>rfl);(case hr=>first|(go_simp;done)|(go_simp;rfl));intro a2 hg b5 hbox hb;have a7:=zqm (below_step zq0 hb);have a0:=zqm (hbox);have b3:=zqm ((by rw [hg];exact(below_size zq0):w.heap.size≤a2));have a3:=zqm ((by rw [hg];exact(below_size zq0):w.heap.size≤a2));clear HB;have HB:=a7;clear a7 hb hbox hg;have c1:b5.cell? ⟨a2,0,none⟩=some (.slice A0_0 l0_0.length c0_0):=(blk_cell a0.out 0).trans rfl;have c2:b5.cell? ⟨a2,1,none⟩=some (.slice A0_1 l0_1.length c0_1):=(blk_cell a0.out 1).trans rfl;have c3:=blk_frozen a0.out 0;have c7:=blk_frozen a0.out 1)|((with_reducible refine gate_callee (f:=80) rfl ?_);refine goesL_ (some 8) rfl rfl Try.func80 zqk rfl #[.agg #[.slice A0_0 l0_0.length c0_0,.slice A0_1 l0_1.length c0_1],.int .i64 a1,.int .i64 a1] rfl zq1 ?_;(with_reducible refine(spec_l2Both.calls k _ _ l0_0 _ _ l0_1 a1 a1 false _ ?side1 ?side2 ?side3 ?side4 A3.out).mono ?_);(case side1=> exact zq45);(case side2=>exact b1.out);(case side3=> exact zq38);(case side4=>exact b2.out);rintro e d5 ⟨rfl,hb⟩;refine⟨_,rfl,?_⟩;replace a0:=zqm (blk_below (g:=a2) (o:= .cells #[.slice A0_0 l0_0.length c0_0,.slice A0_1 l0_1.length c0_1] 30 (0,0)) zq2 hb);replace HB:=zqm (below_step zq21 hb);clear hb))
  go_ret
  exact⟨zq11,zq21⟩
end Go.Proofs.Ytdoomkcgdcfmlaa.Print
end
section
namespace Go.Proofs.Ytdoomkcgdcfmlaa.Print
open Go.RowKit Go.Proofs.YtdoomkcgdcfmlaaW.PrintWords Go.Proofs.YtdoomkcgdcfmlaaW.PrintLast Go.Proofs.YtdoomkcgdcfmlaaW.PrintMore
open Oml
theorem spec_NotOf.ev (U : List (List Int)) (N : List Int) (a : Int) : Ev (fun k => spec_NotOf.f k U N a) (if logicB U N = true then (if inR U.length a = true then notI N a else -1) else -1) := by
  unfold spec_NotOf.f
  refine Ev.bind (spec_l2Both.ev U N a a) ?_
  cases hl:logicB U N with
  | false => repeat (first | ((with_reducible refine Ev.ite_pos ?_ ?_); (first | assumption | (focus omega) | (focus (simp; done)))) | ((with_reducible refine Ev.ite_neg ?_ ?_); (first | assumption | (focus omega) | (focus (simp; done)))))
             exact Ev.now _
  | true =>
    have L:=logicB_iff.1 hl
    cases ha:inR U.length a with
    | false => repeat (first | ((with_reducible refine Ev.ite_pos ?_ ?_); (first | assumption | (focus omega) | (focus (simp; done)))) | ((with_reducible refine Ev.ite_neg ?_ ?_); (first | assumption | (focus omega) | (focus (simp; done)))))
               exact Ev.now _
    | true =>
      have ia:=inR_iff.1 ha
      have h0:=ia.1
      have h1:=ia.2
      have hl2:=L.len
      obtain⟨x,rfl⟩: ∃x:Nat,a=x:=⟨a.toNat,by omega⟩
      repeat(first|((with_reducible refine Ev.ite_pos ?_ ?_);(first|assumption|(focus omega)|(focus (simp;done))))|((with_reducible refine Ev.ite_neg ?_ ?_);(first|assumption|(focus omega)|(focus (simp;done)))))
      exact Ev.eq (Ev.now _) (by rw [rd_nat];rfl)
end Go.Proofs.Ytdoomkcgdcfmlaa.Print
end
section
namespace Go.Proofs.Ytdoomkcgdcfmlaa.Print
open Go.RowKit Go.Proofs.YtdoomkcgdcfmlaaW.PrintWords Go.Proofs.YtdoomkcgdcfmlaaW.PrintLast Go.Proofs.YtdoomkcgdcfmlaaW.PrintMore
open Oml
section
variable {U : List (List Int)} {N : List Int} (L : Logic U N)
include L
theorem join_in {a b : Int} (ha : In U a) (hb : In U b) : Ev (fun k => spec_l1Join.f k U a b) (orI U a b) := by
  obtain⟨x,rfl⟩: ∃x:Nat,a=x:=⟨a.toNat,by have:=ha.1;omega⟩
  obtain⟨y,rfl⟩: ∃y:Nat,b=y:=⟨b.toNat,by have:=hb.1;omega⟩
  exact spec_l1Join.ev L.toOrder (by have:=ha.2;omega) (by have:=hb.2;omega)
end
end Go.Proofs.Ytdoomkcgdcfmlaa.Print
end
section
namespace Go.Proofs.Ytdoomkcgdcfmlaa.Print
open Go.RowKit Go.Proofs.YtdoomkcgdcfmlaaW.PrintWords Go.Proofs.YtdoomkcgdcfmlaaW.PrintLast Go.Proofs.YtdoomkcgdcfmlaaW.PrintMore
open Oml
section
variable {U : List (List Int)} {N : List Int} (L : Logic U N)
theorem fin_of {a : Int} (ia : In U a) : ∃ x : Fin U.length, a = ((x.1 : Nat) : Int) := ⟨⟨a.toNat, by have := ia.1; have := ia.2; omega⟩, by have := ia.1; show a = ((a.toNat : Nat) : Int); omega⟩
theorem in_fin (x : Fin U.length) : In U ((x.1 : Nat) : Int) := ⟨by omega, by have := x.2; omega⟩
theorem or_fin (x y : Fin U.length) : orI U x.1 y.1 = (((L.ol.join x y).1 : Nat) : Int) := by
  show jI U ((x.1 : Nat) : Int).toNat ((y.1 : Nat) : Int).toNat = _
  unfold jI; rw [Int.toNat_natCast, Int.toNat_natCast, L.jn_eq]; rfl
theorem not_fin (x : Fin U.length) : notI N x.1 = (((L.ol.neg x).1 : Nat) : Int) := by
  show at1 N ((x.1 : Nat) : Int).toNat = _
  rw [Int.toNat_natCast, L.ng_eq]; rfl
theorem no_fin : noI U = (((L.ol.bot).1 : Nat) : Int) := by
  unfold noI; rw [L.no_eq]; rfl
theorem yes_fin : yesI U N = (((L.ol.top).1 : Nat) : Int) := by
  unfold yesI; rw [no_fin L, not_fin L]; rfl
theorem le_fin (x y : Fin U.length) : leI U x.1 y.1 = true ↔ L.ol.le x y := by
  show leB U ((x.1 : Nat) : Int).toNat ((y.1 : Nat) : Int).toNat = true ↔ _
  rw [Int.toNat_natCast, Int.toNat_natCast]; rfl
theorem allN_fin {n : Nat} {p : Nat → Bool} : allN n p = true ↔ ∀ x : Fin n, p x.1 = true := by
  rw [allN_iff]
  exact ⟨fun h x => h x.1 x.2, fun h i hi => h ⟨i, hi⟩⟩
end
end Go.Proofs.Ytdoomkcgdcfmlaa.Print
end
section
namespace Go.Proofs.Ytdoomkcgdcfmlaa.Print
open Go.RowKit Go.Proofs.YtdoomkcgdcfmlaaW.PrintWords Go.Proofs.YtdoomkcgdcfmlaaW.PrintLast Go.Proofs.YtdoomkcgdcfmlaaW.PrintMore
def spec_l20Two.f (k : Nat) (s0_0 : List Int) (s0_1 : Int) (a1 : Int) : Option ((List (List Int)) × List Int × Int × Int × Int) := (spec_l20Logic.f k s0_0 s0_1 a1).bind fun bt468 => ((spec_l20Rd_pick.f k s0_0 bt468.2.2 (mx (bt468.2.1.length : Int) 1)).bind fun bt476 => ((spec_l20Rd_pick.f k s0_0 bt476.2 40).bind fun bt478 => ((spec_l20Rd_pick.f k s0_0 bt478.2 (mx (bt468.2.1.length : Int) 1)).bind fun bt480 => ((spec_l20Rd_pick.f k s0_0 bt480.2 40).bind fun bt482 => (some (bt468.1, bt468.2.1, wrap64 (bt476.1 + (wrap64 ((wrap64 (Int.tdiv bt478.1 39)) * 12))), wrap64 (bt480.1 - (wrap64 ((wrap64 (Int.tdiv bt482.1 39)) * 12))), bt482.2))))))
def spec_l20Two.T3 : Bool × List (List Nat × List Nat) := (true, [([], []), ([], []), ([], []), ([1, 2], [1, 2]), ([], []), ([4, 3], [4]), ([5], [5]), ([6], [6]), ([3, 7], [3, 7]), ([], []), ([], []), ([9, 10, 5], [9, 10]), ([], []), ([12, 11], [12]), ([13], [13]), ([14], [14]), ([11, 15], [11, 15]), ([0, 13, 0], [0]), ([8, 17, 0, 1, 2, 3, 4, 5, 6, 7, 8, 17], [8]), ([16, 18, 0, 1, 2, 3, 4, 5, 6, 7, 8, 9, 10, 11, 12, 13, 14, 15, 16, 17, 18], [16])])
def spec_l20Two.B3 : List Nat := [0, 0, 0, 6, 0, 30, 62, 126, 254, 0, 0, 1598, 0, 7742, 15934, 32318, 65086, 15935, 147455, 524287]
theorem spec_l20Two.tab3 : rtab .any (opsOf Try.f76 3) = spec_l20Two.T3 := by kernel_rfl
theorem spec_l20Two.bits3 : waitsOk spec_l20Two.T3.2 spec_l20Two.B3 = true := by kernel_rfl
set_option maxHeartbeats 8000000 in
set_option maxRecDepth 100000 in
theorem spec_l20Two.calls (k : Nat) (g : Nat) (s0_0 : List Int) (s0_1 : Int) (a1 : Int) (r1 : List (List Int)) (r2 : List Int) (r3 : Int) (r4 : Int) (r5 : Int) (w0 w : World) (hI : IsS87 w0 w g s0_0 s0_1) (hB : Below w0.heap.size w0 w) (h : spec_l20Two.f k s0_0 s0_1 a1 = some (r1, r2, r3, r4, r5)) :
  Calls Try.prog 76 #[.pointer (some ⟨g, 0, none⟩), .int .i64 a1] w fun e w' => ∃ v0_ v1_ : Value, e = .returned (.tuple #[.agg #[v0_, v1_], .int .i64 r3, .int .i64 r4]) ∧ Kd.S (Kd.slice 3 (Kd.int .i64)) 28 w' w.heap.size (fun k_ => some k_ ≠ (v1_ : Value).ownBlock) v0_ r1 ∧ Kd.Q (Kd.int .i64) 3 w' w.heap.size (fun _ => True) v1_ r2 ∧ IsS87 w0 w' g s0_0 r5 ∧ Below w0.heap.size w0 w' ∧ KeepBut w w' g none := by
 have hu30:=Try.underlying30;have a0:=zqm hI;have HK:=zqm (KeepBut.refl w g none);have HL:=zqm hB.size;clear hI;have e8:=zqm hB.size;have HB:=zqm hB;clear hB;have H:((spec_l20Logic.f k s0_0 s0_1 a1).bind fun d2=>((spec_l20Rd_pick.f k s0_0 d2.2.2 (mx (d2.2.1.length:Int) 1)).bind fun c2=>((spec_l20Rd_pick.f k s0_0 c2.2 40).bind fun c0=>((spec_l20Rd_pick.f k s0_0 c0.2 (mx (d2.2.1.length:Int) 1)).bind fun b7=>((spec_l20Rd_pick.f k s0_0 b7.2 40).bind fun b2=>(some (d2.1,d2.2.1,wrap64 (c2.1+(wrap64 ((wrap64 (Int.tdiv c0.1 39))*12))),wrap64 (b7.1 - (wrap64 ((wrap64 (Int.tdiv b2.1 39))*12))),b2.2)))))))=some (r1,r2,r3,r4,r5):=h;clear h;replace H:=Option.bind_eq_some_iff.mp H;obtain⟨⟨a8,a4,c6⟩,e9,H⟩:=H;replace H:((spec_l20Rd_pick.f k s0_0 c6 (mx (a4.length:Int) 1)).bind fun c2=>((spec_l20Rd_pick.f k s0_0 c2.2 40).bind fun c0=>((spec_l20Rd_pick.f k s0_0 c0.2 (mx (a4.length:Int) 1)).bind fun b7=>((spec_l20Rd_pick.f k s0_0 b7.2 40).bind fun b2=>(some (a8,a4,wrap64 (c2.1+(wrap64 ((wrap64 (Int.tdiv c0.1 39))*12))),wrap64 (b7.1 - (wrap64 ((wrap64 (Int.tdiv b2.1 39))*12))),b2.2))))))=some (r1,r2,r3,r4,r5):=H;have A3:=zqm e9;clear e9;obtain⟨c7,c8⟩: ∃j_:Int,(mx (a4.length:Int) 1)=j_:=⟨_,rfl⟩;(replace H:((spec_l20Rd_pick.f k s0_0 c6 (c7)).bind fun c2=>((spec_l20Rd_pick.f k s0_0 c2.2 40).bind fun c0=>((spec_l20Rd_pick.f k s0_0 c0.2 (c7)).bind fun b7=>((spec_l20Rd_pick.f k s0_0 b7.2 40).bind fun b2=>(some (a8,a4,wrap64 (c2.1+(wrap64 ((wrap64 (Int.tdiv c0.1 39))*12))),wrap64 (b7.1 - (wrap64 ((wrap64 (Int.tdiv b2.1 39))*12))),b2.2))))))=some (r1,r2,r3,r4,r5):=by first|(rw [c8] at H;exact H)|(simp only [c8] at H ⊢;exact H));(try rw [c8] at A3);(try(have hji4l:1≤c7:=by(rw [← c8];unfold mx;(repeat' split) <;> omega)));(try(have hji4m:0≤c7:=by omega));have g4:(if(a4.length:Int)<1 then 1 else(a4.length:Int))=c7:=c8;replace H:=Option.bind_eq_some_iff.mp H;obtain⟨⟨d3,d4⟩,f0,H⟩:=H;replace H:((spec_l20Rd_pick.f k s0_0 d4 40).bind fun c0=>((spec_l20Rd_pick.f k s0_0 c0.2 (c7)).bind fun b7=>((spec_l20Rd_pick.f k s0_0 b7.2 40).bind fun b2=>(some (a8,a4,wrap64 (d3+(wrap64 ((wrap64 (Int.tdiv c0.1 39))*12))),wrap64 (b7.1 - (wrap64 ((wrap64 (Int.tdiv b2.1 39))*12))),b2.2)))))=some (r1,r2,r3,r4,r5):=H;have A5:=zqm f0;clear f0;replace H:=Option.bind_eq_some_iff.mp H;obtain⟨⟨e2,d5⟩,f1,H⟩:=H;replace H:((spec_l20Rd_pick.f k s0_0 d5 (c7)).bind fun b7=>((spec_l20Rd_pick.f k s0_0 b7.2 40).bind fun b2=>(some (a8,a4,wrap64 (d3+(wrap64 ((wrap64 (Int.tdiv e2 39))*12))),wrap64 (b7.1 - (wrap64 ((wrap64 (Int.tdiv b2.1 39))*12))),b2.2))))=some (r1,r2,r3,r4,r5):=H;have A6:=zqm f1;clear f1;replace H:=Option.bind_eq_some_iff.mp H;obtain⟨⟨e3,d6⟩,f2,H⟩:=H;replace H:((spec_l20Rd_pick.f k s0_0 d6 40).bind fun b2=>(some (a8,a4,wrap64 (d3+(wrap64 ((wrap64 (Int.tdiv e2 39))*12))),wrap64 (e3 - (wrap64 ((wrap64 (Int.tdiv b2.1 39))*12))),b2.2)))=some (r1,r2,r3,r4,r5):=H;have A7:=zqm f2;clear f2;replace H:=Option.bind_eq_some_iff.mp H;obtain⟨⟨e4,e5⟩,f3,H⟩:=H;replace H:(some (a8,a4,wrap64 (d3+(wrap64 ((wrap64 (Int.tdiv e2 39))*12))),wrap64 (e3 - (wrap64 ((wrap64 (Int.tdiv e4 39))*12))),e5))=some (r1,r2,r3,r4,r5):=H;have A8:=zqm f3;clear f3;simp only [Option.some.injEq,Prod.mk.injEq] at H;obtain⟨rfl,rfl,rfl,rfl,rfl⟩:=H
 go_enter Try.func76,Try.ntmps76
 (try go_wp2_with (first|((with_reducible refine gate_dst (N:=4) rfl ?_);refine box_event ?hg (N:=4) ?hd (cs:= #[.slice none 0 0,.slice none 0 0]) (t:=30) ?hr ?_;(case hd=>rfl);(case hg=>rfl);(case hr=>first|(go_simp;done)|(go_simp;rfl));intro a5 hg w9 hbox hb;have d7:=zqm (IsS87.below zq159 hb);have d8:=zqm (KeepBut.trans zq50 (KeepBut.of_below hb g none) (.inl rfl));replace HB:=zqm (below_step zq134 hb);have a6:=zqm (hbox);have b9:=zqm ((by rw [hg];exact(keep_size (w:=w) (g:=g) (row:=none) zq50):w.heap.size≤a5));have c3:=zqm ((Nat.le_trans e8.out (by rw [hg];exact(keep_size (w:=w) (g:=g) (row:=none) zq50):w.heap.size≤a5):w0.heap.size≤a5));have a7:=zqm ((by rw [hg];exact Nat.ne_of_lt (IsS87.lt (show IsS87 w0 _ g s0_0 s0_1 from by repeat(first|(with_reducible first|exact a0.out|apply IsS87.alloc|apply IsS87.drewN|apply IsS87.drew|apply IsS87.set_1)|exact a0.out))):g≠a5));have c4:=zqm ((by rw [hg];exact Nat.ne_of_gt (IsS87.lt (show IsS87 w0 _ g s0_0 s0_1 from by repeat(first|(with_reducible first|exact a0.out|apply IsS87.alloc|apply IsS87.drewN|apply IsS87.drew|apply IsS87.set_1)|exact a0.out))):a5≠g));clear a0 HK;have a0:=d7;have HK:=d8;clear d7 d8 hb hbox hg)|((with_reducible refine gate_callee (f:=85) rfl ?_);refine goesL_ (some 11) rfl rfl Try.func85 zqk rfl #[.pointer (some ⟨g,0,none⟩),.int .i64 a1] rfl zq1 ?_;(with_reducible refine(spec_l20Logic.calls k g s0_0 s0_1 a1 a8 a4 c6 w0 _ ?side1 ?side2 A3.out).mono ?_);(case side1=> exact zq346);(case side2=> exact zq333);rintro e h1 ⟨g9,h0,rfl,f4,f5,hi,hb,hk⟩;refine⟨_,rfl,?_⟩;replace a6:=zqm (KeepBut.blk hk (g':=a5) (o:= .cells #[.slice none 0 0,.slice none 0 0] 30 (0,0)) zq153 c4.out (by simp));have b3:=zqm (Kd.S_lower f4 (keep_size (w:=w) (g:=g) (row:=none) zq132));have b4:=zqm (Kd.Q_lower f5 (keep_size (w:=w) (g:=g) (row:=none) zq132));replace HK:=zqm (KeepBut.trans zq132 hk (.inl rfl));replace HB:=zqm (hb);replace a0:=zqm (hi);clear hb hk hi f4 f5)|((with_reducible refine gate_dst (N:=7) rfl ?_);refine box_event ?hg (N:=7) ?hd (cs:= #[.slice none 0 0,.slice none 0 0]) (t:=30) ?hr ?_;(case hd=>rfl);(case hg=>rfl);(case hr=>first|(go_simp;done)|(go_simp;rfl));intro a2 hg d1 hbox hb;replace b3:=zqm (Kd.S_below zq171 hb);replace b4:=zqm (Kd.Q_below zq275 hb);have d9:=zqm (IsS87.below zq346 hb);have e0:=zqm (blk_below (g:=a5) (o:= .cells #[.slice none 0 0,.slice none 0 0] 30 (0,0)) zq153 hb);have e1:=zqm (KeepBut.trans zq132 (KeepBut.of_below hb g none) (.inl rfl));replace HB:=zqm (below_step zq333 hb);have a3:=zqm (hbox);have c9:=zqm ((by rw [hg];exact(keep_size (w:=w) (g:=g) (row:=none) zq132):w.heap.size≤a2));have d0:=zqm ((Nat.le_trans e8.out (by rw [hg];exact(keep_size (w:=w) (g:=g) (row:=none) zq132):w.heap.size≤a2):w0.heap.size≤a2));have c1:=zqm ((by rw [hg];exact Nat.ne_of_lt (blk_lt (g:=a5) (o:= .cells #[.slice none 0 0,.slice none 0 0] 30 (0,0)) zq153):a5≠a2));have b8:=zqm ((by rw [hg];exact Nat.ne_of_gt (blk_lt (g:=a5) (o:= .cells #[.slice none 0 0,.slice none 0 0] 30 (0,0)) zq153):a2≠a5));have a9:=zqm ((by rw [hg];exact Nat.ne_of_lt (IsS87.lt (show IsS87 w0 _ g s0_0 c6 from by repeat(first|(with_reducible first|exact a0.out|apply IsS87.alloc|apply IsS87.drewN|apply IsS87.drew|apply IsS87.set_1|refine IsS87.far ?_ a7.out _)|exact a0.out))):g≠a2));have c5:=zqm ((by rw [hg];exact Nat.ne_of_gt (IsS87.lt (show IsS87 w0 _ g s0_0 c6 from by repeat(first|(with_reducible first|exact a0.out|apply IsS87.alloc|apply IsS87.drewN|apply IsS87.drew|apply IsS87.set_1|refine IsS87.far ?_ a7.out _)|exact a0.out))):a2≠g));clear a0 a6 HK;have a0:=d9;have a6:=e0;have HK:=e1;clear d9 e0 e1 hb hbox hg;obtain⟨b0,b1,f7⟩:=Kd.S_slice b3.out;subst f7;have g5:=b8.out;have g6:=c1.out;have g7:=c5.out;have g8:=a9.out;have f9:d1.cell? ⟨a2,0,none⟩=some (.slice none 0 0):=(blk_cell a3.out 0).trans rfl;have g0:d1.cell? ⟨a2,1,none⟩=some (.slice none 0 0):=(blk_cell a3.out 1).trans rfl;have g1:=blk_frozen a3.out 0;have g2:=blk_frozen a3.out 1;obtain⟨b5,b6,f8,_⟩:=Kd.Q_slice b4.out;subst f8)))
 have d7:Aside0 (Kd.S (Kd.slice 3 (Kd.int .i64)) 28 ((d1.setCell ⟨a2,0,none⟩ (.slice b0 a8.length b1)).setCell ⟨a2,1,none⟩ (.slice b5 a4.length b6)) w.heap.size (fun k_=>some k_≠(.slice b5 a4.length b6:Value).ownBlock) (.slice b0 a8.length b1) a8):=⟨by(with_reducible repeat(first|apply Kd.S_alloc|apply Kd.S_drewN|apply Kd.S_drew));exact Kd.S_mono (Kd.S_far (p:=⟨a2,1,none⟩) (Kd.S_far (p:=⟨a2,0,none⟩) (Kd.S_types b3.out a3.out (by decide)) (fun _ hk=>hk.2) (.slice b0 a8.length b1)) (fun _ hk=>hk.2) (.slice b5 a4.length b6)) (fun _ hk=>hk.1)⟩;have d8:Aside0 (Kd.Q (Kd.int .i64) 3 ((d1.setCell ⟨a2,0,none⟩ (.slice b0 a8.length b1)).setCell ⟨a2,1,none⟩ (.slice b5 a4.length b6)) w.heap.size (fun _=>True) (.slice b5 a4.length b6) a4):=⟨by(with_reducible repeat(first|apply Kd.Q_alloc|apply Kd.Q_drewN|apply Kd.Q_drew));exact Kd.Q_mono (Kd.Q_far (p:=⟨a2,1,none⟩) (Kd.Q_far (p:=⟨a2,0,none⟩) (Kd.Q_types b4.out a3.out (by decide)) (fun _ hk=>hk.2) (.slice b0 a8.length b1)) (fun _ hk=>hk.2) (.slice b5 a4.length b6)) (fun _ hk=>trivial)⟩;have d9:Aside0 (((d1.setCell ⟨a2,0,none⟩ (.slice b0 a8.length b1)).setCell ⟨a2,1,none⟩ (.slice b5 a4.length b6)).heap[a5]? =some (.cells #[.slice none 0 0,.slice none 0 0] 30 (0,0))):=⟨by(with_reducible repeat(first|refine blk_drewN ?_ _|refine blk_drew ?_|refine blk_alloc ?_ _));refine blk_far ?_ c1.out _;(with_reducible repeat(first|refine blk_drewN ?_ _|refine blk_drew ?_|refine blk_alloc ?_ _));refine blk_far ?_ c1.out _;(with_reducible repeat(first|refine blk_drewN ?_ _|refine blk_drew ?_|refine blk_alloc ?_ _));exact a6.out⟩;have e0:Aside0 (((d1.setCell ⟨a2,0,none⟩ (.slice b0 a8.length b1)).setCell ⟨a2,1,none⟩ (.slice b5 a4.length b6)).heap[a2]? =some (.cells #[.slice b0 a8.length b1,.slice b5 a4.length b6] 30 (0,0))):=⟨by(with_reducible repeat(first|refine blk_drewN ?_ _|refine blk_drew ?_|refine blk_alloc ?_ _));refine blk_put (cs:= #[.slice b0 a8.length b1,.slice none 0 0]) ?_ 1 _ rfl;(with_reducible repeat(first|refine blk_drewN ?_ _|refine blk_drew ?_|refine blk_alloc ?_ _));refine blk_put (cs:= #[.slice none 0 0,.slice none 0 0]) ?_ 0 _ rfl;(with_reducible repeat(first|refine blk_drewN ?_ _|refine blk_drew ?_|refine blk_alloc ?_ _));exact a3.out⟩;have e1:Aside0 (IsS87 w0 ((d1.setCell ⟨a2,0,none⟩ (.slice b0 a8.length b1)).setCell ⟨a2,1,none⟩ (.slice b5 a4.length b6)) g s0_0 c6):=⟨zq117⟩;have e6:Aside0 (KeepBut w ((d1.setCell ⟨a2,0,none⟩ (.slice b0 a8.length b1)).setCell ⟨a2,1,none⟩ (.slice b5 a4.length b6)) g none):=⟨zq118⟩;have e7:Aside0 (Below w0.heap.size w0 ((d1.setCell ⟨a2,0,none⟩ (.slice b0 a8.length b1)).setCell ⟨a2,1,none⟩ (.slice b5 a4.length b6))):=⟨zq102⟩;generalize ((d1.setCell ⟨a2,0,none⟩ (.slice b0 a8.length b1)).setCell ⟨a2,1,none⟩ (.slice b5 a4.length b6))=g3 at d7 d8 d9 e0 e1 e6 e7 ⊢;have b3:=d7;have b4:=d8;have a6:=d9;have a3:=e0;have a0:=e1;have HK:=e6;have HB:=e7;clear d7 d8 d9 e0 e1 e6 e7;replace b3:=zqm (Kd.S_drew b3.out);replace b4:=zqm (Kd.Q_drew b4.out);replace a6:=zqm (blk_drew a6.out);replace a3:=zqm (blk_drew a3.out);replace a0:=zqm (IsS87.drew a0.out);replace HK:=zqm (keep_drew HK.out);replace HB:=zqm (below_drew1 HB.out);refine start_ (n:=20) (S:=fun w'=>w'.cell? ⟨a2,0,none⟩=some (.slice b0 a8.length b1)∧w'.cell? ⟨a2,1,none⟩=some (.slice b5 a4.length b6)) (ds:= []) (zqb 20 0) zqk rfl rfl ⟨(blk_cell a3.out 0).trans rfl,(blk_cell a3.out 1).trans rfl⟩ (fun hHeld=>?_);refine with_tabW spec_l20Two.tab3 spec_l20Two.bits3 (fun HT_ HW_=>?_);generalize g3.drew=h2 at b3 b4 a6 a3 a0 HK HB hHeld ⊢;refine pure_ (i:=1) (N:=some 17) (v:=?_) (a':=?_) (zqb 20 2) rfl rfl (any_of HT_.out zqk) (fun _ _ _ h=>h) (Or.inl ⟨by rfl,?_⟩) ?_ ?_;rotate_left
 ·exact zqt
 rotate_left
 ·exact zqs
 refine pure_ (i:=2) (N:=some 18) (v:=?_) (a':=?_) (zqb 20 6) rfl rfl (any_of HT_.out zqk) (fun _ _ _ h=>h) (Or.inl ⟨by rfl,?_⟩) ?_ ?_;rotate_left
 ·exact zqt
 rotate_left
 ·exact zqs
 refine pure_ (i:=4) (N:=some 20) (v:=?_) (a':=?_) (zqb 20 22) rfl rfl (any_of HT_.out zqk) (fun _ _ _ h=>h) (Or.inl ⟨by rfl,?_⟩) ?_ ?_;rotate_left
 ·exact zqt
 rotate_left
 ·exact zqs
 refine pure_ (i:=9) (N:=some 25) (v:=?_) (a':=?_) (zqb 20 534) rfl rfl (any_of HT_.out zqk) (fun _ _ _ h=>h) (Or.inl ⟨by rfl,?_⟩) ?_ ?_;rotate_left
 ·exact zqt
 rotate_left
 ·exact zqs
 refine pure_ (i:=10) (N:=some 26) (v:=?_) (a':=?_) (zqb 20 1558) rfl rfl (any_of HT_.out zqk) (fun _ _ _ h=>h) (Or.inl ⟨by rfl,?_⟩) ?_ ?_;rotate_left
 ·exact zqt
 rotate_left
 ·exact zqs
 refine pure_ (i:=12) (N:=some 28) (v:=?_) (a':=?_) (zqb 20 5654) rfl rfl (any_of HT_.out zqk) (fun _ _ _ h=>h) (Or.inl ⟨by rfl,?_⟩) ?_ ?_;rotate_left
 ·exact zqt
 rotate_left
 ·exact zqs
 refine take_ (i:=0) (N:=some 16) (v:=?_) (a':=?_) (zqb 20 5655) rfl rfl (take_ofW HT_.out HW_.out zqk) (fun _ _ _ h=>h) (Or.inl ⟨by rfl,?_⟩) hHeld ?_ ?_;rotate_left
 ·rintro w' ⟨s0,s1⟩;go_simp;with_reducible rfl
 rotate_left
 ·exact zqs
 refine one_ (i:=3) (N:=some 19) (zqb 20 5663) rfl rfl (one_of HT_.out zqk) (by decide) (fun K hK=>?_);refine goes_ Try.func103 zqk rfl #[.pointer (some ⟨g,0,none⟩),.int .i64 c7] (by rfl) rfl rfl zq354 ?_;(with_reducible refine(spec_l20Rd_pick.calls k g s0_0 c6 c7 d3 d4 w0 _ ?side1 ?side2 A5.out).mono ?_);(case side1=> exact zq117);(case side2=> exact zq102);rintro e h3 ⟨rfl,hi,hb,hk⟩;refine⟨_,rfl,?_⟩;replace a6:=zqm (KeepBut.blk hk (g':=a5) (o:= .cells #[.slice none 0 0,.slice none 0 0] 30 (0,0)) zq153 c4.out (by simp));replace b3:=zqm (Kd.S_mono (Kd.S_keep (IsS87.apartS (show IsS87 w0 _ g s0_0 c6 from by repeat(first|(with_reducible first|exact a0.out|apply IsS87.alloc|apply IsS87.drewN|apply IsS87.drew|apply IsS87.set_1|refine IsS87.far ?_ a7.out _|refine IsS87.far ?_ a9.out _)|exact a0.out)) zq171 (by decide)) hk (fun _ h=>h.2)) (fun _ h=>h.1));replace b4:=zqm (Kd.Q_mono (Kd.Q_keep (IsS87.apartQ (show IsS87 w0 _ g s0_0 c6 from by repeat(first|(with_reducible first|exact a0.out|apply IsS87.alloc|apply IsS87.drewN|apply IsS87.drew|apply IsS87.set_1|refine IsS87.far ?_ a7.out _|refine IsS87.far ?_ a9.out _)|exact a0.out)) zq275 (by decide)) hk (fun _ h=>h.2)) (fun _ h=>h.1));replace a3:=zqm (KeepBut.blk hk (g':=a2) (o:= .cells #[.slice b0 a8.length b1,.slice b5 a4.length b6] 30 (0,0)) zq311 c5.out (by simp));replace HK:=zqm (KeepBut.trans zq118 hk (.inl rfl));replace HB:=zqm (hb);replace a0:=zqm (hi);clear hb hk hi;refine hK.out _ _ ⟨(blk_cell a3.out 0).trans rfl,(blk_cell a3.out 1).trans rfl⟩ (fun hHeld=>?_);clear hK K;refine norm_ (a':=?_) ?_ ?_;rotate_left
 ·show Act.put _ (some 19) _=_;exact zqs
 refine one_ (i:=5) (N:=some 21) (zqb 20 5695) rfl rfl (one_of HT_.out zqk) (by decide) (fun K hK=>?_);refine goes_ Try.func103 zqk rfl #[.pointer (some ⟨g,0,none⟩),.int .i64 40] (by rfl) rfl rfl zq1 ?_;(with_reducible refine(spec_l20Rd_pick.calls k g s0_0 d4 40 e2 d5 w0 _ ?side1 ?side2 A6.out).mono ?_);(case side1=> exact zq117);(case side2=> exact zq102);rintro e h4 ⟨rfl,hi,hb,hk⟩;refine⟨_,rfl,?_⟩;replace a6:=zqm (KeepBut.blk hk (g':=a5) (o:= .cells #[.slice none 0 0,.slice none 0 0] 30 (0,0)) zq153 c4.out (by simp));replace b3:=zqm (Kd.S_mono (Kd.S_keep (IsS87.apartS (show IsS87 w0 _ g s0_0 d4 from by repeat(first|(with_reducible first|exact a0.out|apply IsS87.alloc|apply IsS87.drewN|apply IsS87.drew|apply IsS87.set_1|refine IsS87.far ?_ a7.out _|refine IsS87.far ?_ a9.out _)|exact a0.out)) zq171 (by decide)) hk (fun _ h=>h.2)) (fun _ h=>h.1));replace b4:=zqm (Kd.Q_mono (Kd.Q_keep (IsS87.apartQ (show IsS87 w0 _ g s0_0 d4 from by repeat(first|(with_reducible first|exact a0.out|apply IsS87.alloc|apply IsS87.drewN|apply IsS87.drew|apply IsS87.set_1|refine IsS87.far ?_ a7.out _|refine IsS87.far ?_ a9.out _)|exact a0.out)) zq275 (by decide)) hk (fun _ h=>h.2)) (fun _ h=>h.1));replace a3:=zqm (KeepBut.blk hk (g':=a2) (o:= .cells #[.slice b0 a8.length b1,.slice b5 a4.length b6] 30 (0,0)) zq311 c5.out (by simp));replace HK:=zqm (KeepBut.trans zq118 hk (.inl rfl));replace HB:=zqm (hb);replace a0:=zqm (hi);clear hb hk hi;refine hK.out _ _ ⟨(blk_cell a3.out 0).trans rfl,(blk_cell a3.out 1).trans rfl⟩ (fun hHeld=>?_);clear hK K;refine norm_ (a':=?_) ?_ ?_;rotate_left
 ·show Act.put _ (some 21) _=_;exact zqs
 refine pure_ (i:=6) (N:=some 22) (v:=?_) (a':=?_) (zqb 20 5759) rfl rfl (any_of HT_.out zqk) (fun _ _ _ h=>h) (Or.inl ⟨by rfl,?_⟩) ?_ ?_;rotate_left
 ·exact zqt
 rotate_left
 ·exact zqs
 refine pure_ (i:=7) (N:=some 23) (v:=?_) (a':=?_) (zqb 20 5887) rfl rfl (any_of HT_.out zqk) (fun _ _ _ h=>h) (Or.inl ⟨by rfl,?_⟩) ?_ ?_;rotate_left
 ·exact zqt
 rotate_left
 ·exact zqs
 refine pure_ (i:=8) (N:=some 24) (v:=?_) (a':=?_) (zqb 20 6143) rfl rfl (any_of HT_.out zqk) (fun _ _ _ h=>h) (Or.inl ⟨by rfl,?_⟩) ?_ ?_;rotate_left
 ·exact zqt
 rotate_left
 ·exact zqs
 refine one_ (i:=11) (N:=some 27) (zqb 20 8191) rfl rfl (one_of HT_.out zqk) (by decide) (fun K hK=>?_);refine goes_ Try.func103 zqk rfl #[.pointer (some ⟨g,0,none⟩),.int .i64 c7] (by rfl) rfl rfl zq354 ?_;(with_reducible refine(spec_l20Rd_pick.calls k g s0_0 d5 c7 e3 d6 w0 _ ?side1 ?side2 A7.out).mono ?_);(case side1=> exact zq117);(case side2=> exact zq102);rintro e h5 ⟨rfl,hi,hb,hk⟩;refine⟨_,rfl,?_⟩;replace a6:=zqm (KeepBut.blk hk (g':=a5) (o:= .cells #[.slice none 0 0,.slice none 0 0] 30 (0,0)) zq153 c4.out (by simp));replace b3:=zqm (Kd.S_mono (Kd.S_keep (IsS87.apartS (show IsS87 w0 _ g s0_0 d5 from by repeat(first|(with_reducible first|exact a0.out|apply IsS87.alloc|apply IsS87.drewN|apply IsS87.drew|apply IsS87.set_1|refine IsS87.far ?_ a7.out _|refine IsS87.far ?_ a9.out _)|exact a0.out)) zq171 (by decide)) hk (fun _ h=>h.2)) (fun _ h=>h.1));replace b4:=zqm (Kd.Q_mono (Kd.Q_keep (IsS87.apartQ (show IsS87 w0 _ g s0_0 d5 from by repeat(first|(with_reducible first|exact a0.out|apply IsS87.alloc|apply IsS87.drewN|apply IsS87.drew|apply IsS87.set_1|refine IsS87.far ?_ a7.out _|refine IsS87.far ?_ a9.out _)|exact a0.out)) zq275 (by decide)) hk (fun _ h=>h.2)) (fun _ h=>h.1));replace a3:=zqm (KeepBut.blk hk (g':=a2) (o:= .cells #[.slice b0 a8.length b1,.slice b5 a4.length b6] 30 (0,0)) zq311 c5.out (by simp));replace HK:=zqm (KeepBut.trans zq118 hk (.inl rfl));replace HB:=zqm (hb);replace a0:=zqm (hi);clear hb hk hi;refine hK.out _ _ ⟨(blk_cell a3.out 0).trans rfl,(blk_cell a3.out 1).trans rfl⟩ (fun hHeld=>?_);clear hK K;refine norm_ (a':=?_) ?_ ?_;rotate_left
 ·show Act.put _ (some 27) _=_;exact zqs
 refine one_ (i:=13) (N:=some 29) (zqb 20 16383) rfl rfl (one_of HT_.out zqk) (by decide) (fun K hK=>?_);refine goes_ Try.func103 zqk rfl #[.pointer (some ⟨g,0,none⟩),.int .i64 40] (by rfl) rfl rfl zq1 ?_;(with_reducible refine(spec_l20Rd_pick.calls k g s0_0 d6 40 e4 e5 w0 _ ?side1 ?side2 A8.out).mono ?_);(case side1=> exact zq117);(case side2=> exact zq102);rintro e f6 ⟨rfl,hi,hb,hk⟩;refine⟨_,rfl,?_⟩;replace a6:=zqm (KeepBut.blk hk (g':=a5) (o:= .cells #[.slice none 0 0,.slice none 0 0] 30 (0,0)) zq153 c4.out (by simp));replace b3:=zqm (Kd.S_mono (Kd.S_keep (IsS87.apartS (show IsS87 w0 _ g s0_0 d6 from by repeat(first|(with_reducible first|exact a0.out|apply IsS87.alloc|apply IsS87.drewN|apply IsS87.drew|apply IsS87.set_1|refine IsS87.far ?_ a7.out _|refine IsS87.far ?_ a9.out _)|exact a0.out)) zq171 (by decide)) hk (fun _ h=>h.2)) (fun _ h=>h.1));replace b4:=zqm (Kd.Q_mono (Kd.Q_keep (IsS87.apartQ (show IsS87 w0 _ g s0_0 d6 from by repeat(first|(with_reducible first|exact a0.out|apply IsS87.alloc|apply IsS87.drewN|apply IsS87.drew|apply IsS87.set_1|refine IsS87.far ?_ a7.out _|refine IsS87.far ?_ a9.out _)|exact a0.out)) zq275 (by decide)) hk (fun _ h=>h.2)) (fun _ h=>h.1));replace a3:=zqm (KeepBut.blk hk (g':=a2) (o:= .cells #[.slice b0 a8.length b1,.slice b5 a4.length b6] 30 (0,0)) zq311 c5.out (by simp));replace HK:=zqm (KeepBut.trans zq118 hk (.inl rfl));replace HB:=zqm (hb);replace a0:=zqm (hi);clear hb hk hi;refine hK.out _ _ ⟨(blk_cell a3.out 0).trans rfl,(blk_cell a3.out 1).trans rfl⟩ (fun hHeld=>?_);clear hK K;refine norm_ (a':=?_) ?_ ?_;rotate_left
 ·show Act.put _ (some 29) _=_;exact zqs
 refine pure_ (i:=14) (N:=some 30) (v:=?_) (a':=?_) (zqb 20 32767) rfl rfl (any_of HT_.out zqk) (fun _ _ _ h=>h) (Or.inl ⟨by rfl,?_⟩) ?_ ?_;rotate_left
 ·exact zqt
 rotate_left
 ·exact zqs
 refine pure_ (i:=15) (N:=some 31) (v:=?_) (a':=?_) (zqb 20 65535) rfl rfl (any_of HT_.out zqk) (fun _ _ _ h=>h) (Or.inl ⟨by rfl,?_⟩) ?_ ?_;rotate_left
 ·exact zqt
 rotate_left
 ·exact zqs
 refine pure_ (i:=16) (N:=some 32) (v:=?_) (a':=?_) (zqb 20 131071) rfl rfl (any_of HT_.out zqk) (fun _ _ _ h=>h) (Or.inl ⟨by rfl,?_⟩) ?_ ?_;rotate_left
 ·exact zqt
 rotate_left
 ·exact zqs
 refine one_ (i:=17) (N:=none) (zqb 20 262143) rfl rfl (one_of HT_.out zqk) (by decide) (fun K hK=>?_);have hs23:f6.cell? ⟨a5,0,none⟩=some (.slice none 0 0):=(blk_cell a6.out 0).trans rfl;have hfs23:=blk_frozen a6.out 0;have hns23_1:=b8.out;have hms23_1:=c1.out;have hs24:f6.cell? ⟨a5,1,none⟩=some (.slice none 0 0):=(blk_cell a6.out 1).trans rfl;have hfs24:=blk_frozen a6.out 1;have hns24_1:=b8.out;have hms24_1:=c1.out;refine skip_ (w1:=?_) (by rfl) rfl ?_ ?_;rotate_left
 ·go_simp;rfl
 refine hK.out _ _ ⟨((cell_far (p:=⟨a5,_,none⟩) b8.out _).trans (((cell_far (p:=⟨a5,_,none⟩) b8.out _).trans (hHeld.1)))),((cell_far (p:=⟨a5,_,none⟩) b8.out _).trans (((cell_far (p:=⟨a5,_,none⟩) b8.out _).trans (hHeld.2))))⟩ (fun hHeld=>?_);clear hK K;refine pure_ (i:=18) (N:=some 5) (v:=?_) (a':=?_) (zqb 20 524287) rfl rfl (any_of HT_.out zqk) (fun _ _ _ h=>h) (Or.inl ⟨by rfl,?_⟩) ?_ ?_;rotate_left
 ·exact zqt
 rotate_left
 ·exact zqs
 refine pure_ (i:=19) (N:=some 6) (v:=?_) (a':=?_) (zqb 20 1048575) rfl rfl (any_of HT_.out zqk) (fun _ _ _ h=>h) (Or.inl ⟨by rfl,?_⟩) ?_ ?_;rotate_left
 ·exact zqt
 rotate_left
 ·exact zqs
 refine done_ (done_of HT_.out zqk) ?_;(try go_wp2);refine bodyPost_ret (results_ctt rfl _ _ a5 30 #[.slice b0 a8.length b1,.slice b5 a4.length b6] (0,0) _ rfl (by(with_reducible repeat(first|refine blk_drewN ?_ _|refine blk_drew ?_|refine blk_alloc ?_ _));refine blk_put (cs:= #[.slice b0 a8.length b1,.slice none 0 0]) ?_ 1 _ rfl;(with_reducible repeat(first|refine blk_drewN ?_ _|refine blk_drew ?_|refine blk_alloc ?_ _));refine blk_put (cs:= #[.slice none 0 0,.slice none 0 0]) ?_ 0 _ rfl;(with_reducible repeat(first|refine blk_drewN ?_ _|refine blk_drew ?_|refine blk_alloc ?_ _));exact a6.out) Try.underlying30 rfl zqk) rfl ?_;exact⟨_,_,by first|rfl|(simp [errW_none,errW_some] <;> rfl)|(simp only [← c8];first|rfl|(simp [errW_none,errW_some] <;> rfl))|(simp [*,errW_none,errW_some] <;> rfl),by(with_reducible repeat(first|apply Kd.S_alloc|apply Kd.S_drewN|apply Kd.S_drew));exact Kd.S_mono (Kd.S_far (p:=⟨a5,1,none⟩) (Kd.S_far (p:=⟨a5,0,none⟩) (Kd.S_types b3.out a6.out (by decide)) (fun _ hk=>hk.2) (.slice b0 a8.length b1)) (fun _ hk=>hk.2) (.slice b5 a4.length b6)) (fun _ hk=>hk.1),by(with_reducible repeat(first|apply Kd.Q_alloc|apply Kd.Q_drewN|apply Kd.Q_drew));exact Kd.Q_mono (Kd.Q_far (p:=⟨a5,1,none⟩) (Kd.Q_far (p:=⟨a5,0,none⟩) (Kd.Q_types b4.out a6.out (by decide)) (fun _ hk=>hk.2) (.slice b0 a8.length b1)) (fun _ hk=>hk.2) (.slice b5 a4.length b6)) (fun _ hk=>trivial),zq117,zq102,zq118⟩
end Go.Proofs.Ytdoomkcgdcfmlaa.Print
end
section
namespace Go.Proofs.Ytdoomkcgdcfmlaa.Print
open Go.RowKit Go.Proofs.YtdoomkcgdcfmlaaW.PrintWords Go.Proofs.YtdoomkcgdcfmlaaW.PrintLast Go.Proofs.YtdoomkcgdcfmlaaW.PrintMore
open Oml
section
variable {b : List Int} (hb : Bytes b) (hl : b.length ≤ 2000)
include hb hl
theorem two_ev {p : Int} (h0 : 0 ≤ p) (h1 : p ≤ 999999000) (n : Int) : ∃ V M x y q, Ev (fun k => spec_l20Two.f k b p n) (V, M, x, y, q) ∧ p ≤ q ∧ q ≤ p + 124 := by
  obtain⟨V,M,q,h,k1,k2⟩:=logic_ev hb hl h0 (by omega) n
  obtain⟨v1,e1,_,_⟩:=pick_ev hb hl (p:=q) (by omega) (by omega) (mx (M.length:Int) 1)
  obtain⟨v2,e2,_,_⟩:=pick_ev hb hl (p:=q+1) (by omega) (by omega) 40
  obtain⟨v3,e3,_,_⟩:=pick_ev hb hl (p:=q+1+1) (by omega) (by omega) (mx (M.length:Int) 1)
  obtain⟨v4,e4,_,_⟩:=pick_ev hb hl (p:=q+1+1+1) (by omega) (by omega) 40
  exact⟨_,_,_,_,q+1+1+1+1,Ev.bind h (Ev.bind e1 (Ev.bind e2 (Ev.bind e3 (Ev.bind e4 (Ev.now _))))),by omega,by omega⟩
end
end Go.Proofs.Ytdoomkcgdcfmlaa.Print
end
section
namespace Go.Proofs.Ytdoomkcgdcfmlaa.Print
open Go.RowKit Go.Proofs.YtdoomkcgdcfmlaaW.PrintWords Go.Proofs.YtdoomkcgdcfmlaaW.PrintLast Go.Proofs.YtdoomkcgdcfmlaaW.PrintMore
open Oml
def impl_NotOf.f (l0_0 : List (List Int)) (l0_1 : List Int) (a1 : Int) : Option (Int) := some (if logicB l0_0 l0_1 = true then (if [a1].all (inR l0_0.length) = true then (notI l0_1 a1) else (-1)) else (-1))
set_option maxHeartbeats 1000000 in
theorem impl_NotOf.calls (A0_0 : Option Addr) (c0_0 : Nat) (l0_0 : List (List Int)) (A0_1 : Option Addr) (c0_1 : Nat) (l0_1 : List Int) (a1 : Int) (r : Int) (w : World) (hr0_0 : Kd.C (Kd.slice 3 (Kd.int .i64)) w A0_0 l0_0.length l0_0) (hc0_0 : l0_0.length ≤ c0_0) (hr0_1 : Kd.C (Kd.int .i64) w A0_1 l0_1.length l0_1) (hc0_1 : l0_1.length ≤ c0_1) (h : impl_NotOf.f l0_0 l0_1 a1 = some r) :
    Calls Try.prog 32 #[.agg #[.slice A0_0 l0_0.length c0_0,.slice A0_1 l0_1.length c0_1],.int .i64 a1] w fun e w'=>e= .returned (.int .i64 r)∧Below w.heap.size w w':=by
  obtain⟨k,hF⟩:=told_facts l0_0
  have hu30:=Try.underlying30
  have hu70:=Try.underlying70
  have HF:=Aside0.mk hF
  have HR0:=Aside0.mk hr0_0
  have HC0:=Aside0.mk hc0_0
  have HR1:=Aside0.mk hr0_1
  have HC1:=Aside0.mk hc0_1
  simp only [impl_NotOf.f,Option.some.injEq] at h
  clear hr0_0 hc0_0 hr0_1 hc0_1 hF
  cases hL:logicB l0_0 l0_1 with
  | false =>
    rw [hL] at h
    have hr_:(-1)=r:=by simpa using h
    subst hr_
    have HLB:=Aside0.mk hL
    clear h hL
    go_enter Try.func32,Try.ntmps32
    go_wp2_with (first|((with_reducible refine gate_dst (N:=2) rfl ?_);refine box_event ?hg (N:=2) ?hd (cs:= #[.slice A0_0 l0_0.length c0_0,.slice A0_1 l0_1.length c0_1]) (t:=30) ?hr ?_;(case hd=>rfl);(case hg=>rfl);(case hr=>first|(go_simp;done)|(go_simp;rfl));intro gb hg_ w1 hbox hb;have HB:=Aside0.mk hb;have hx0:w1.cell? ⟨gb,0,none⟩=some (.slice A0_0 l0_0.length c0_0):=(blk_cell hbox 0).trans rfl;have hx1:w1.cell? ⟨gb,1,none⟩=some (.slice A0_1 l0_1.length c0_1):=(blk_cell hbox 1).trans rfl;have HX:=Aside0.mk hbox;clear hbox hb hg_)|(go_at_call 77;(with_reducible refine(told_n k _ _ l0_0 _ _ l0_1 _ ?s1 ?s2 ?s3 ?s4 HF.out HLB.out).mono ?_);(case s1=>exact Kd.C_below HR0.out HB.out);(case s2=>exact HC0.out);(case s3=>exact Kd.C_below HR1.out HB.out);(case s4=>exact HC1.out);rintro e w2 ⟨rfl,hb⟩;have HB2:=Aside0.mk (below_step HB.out hb);clear hb hx0 hx1 HX HB)|(go_at_call 78;(with_reducible refine(knows_nil _ _ _ _).mono ?_);rintro e w3 ⟨rfl,hb⟩;have HB3:=Aside0.mk (below_step zq116 hb);clear hb))
    go_ret
    exact⟨rfl,HB3.out⟩
  | true =>
    have HLB:=Aside0.mk hL
    have HLg:=Aside0.mk (logicB_iff.1 hL)
    cases hin: [a1].all (inR l0_0.length) with
    | false =>
      rw [hL,hin] at h
      have hr_:(-1)=r:=by simpa using h
      subst hr_
      have HIN:=Aside0.mk hin
      clear h hL hin
      go_enter Try.func32,Try.ntmps32
      go_wp2_with (first|((with_reducible refine gate_dst (N:=2) rfl ?_);refine box_event ?hg (N:=2) ?hd (cs:= #[.slice A0_0 l0_0.length c0_0,.slice A0_1 l0_1.length c0_1]) (t:=30) ?hr ?_;(case hd=>rfl);(case hg=>rfl);(case hr=>first|(go_simp;done)|(go_simp;rfl));intro gb hg_ w1 hbox hb;have HB:=Aside0.mk hb;have hx0:w1.cell? ⟨gb,0,none⟩=some (.slice A0_0 l0_0.length c0_0):=(blk_cell hbox 0).trans rfl;have hx1:w1.cell? ⟨gb,1,none⟩=some (.slice A0_1 l0_1.length c0_1):=(blk_cell hbox 1).trans rfl;have HX:=Aside0.mk hbox;clear hbox hb hg_)|(go_at_call 77;(with_reducible refine(told_y k _ _ l0_0 _ _ l0_1 _ ?s1 ?s2 ?s3 ?s4 HF.out HLB.out).mono ?_);(case s1=>exact Kd.C_below HR0.out HB.out);(case s2=>exact HC0.out);(case s3=>exact Kd.C_below HR1.out HB.out);(case s4=>exact HC1.out);rintro e w2 ⟨g,v,rfl,hv,hge,hb⟩;have HB2:=Aside0.mk (below_step HB.out hb);have HV:=Aside0.mk hv;clear hv hge hb hx0 hx1 HX HB)|(go_at_call 78;(with_reducible refine(knows_calls g l0_0 l0_1 v _ HLg.out ?s1 _ _ [a1] 1 rfl ?s2 (by omega) false HIN.out).mono ?_);(case s1=>exact View.alloc HV.out _);(case s2=>exact lit_C _ _ [a1] (by simp));rintro e w3 ⟨rfl,hb⟩;have HB3:=Aside0.mk (below_step (below_alloc HB2.out _) hb);have HV3:=Aside0.mk (View.below (View.alloc HV.out _) hb);clear hb))
      go_ret
      exact⟨rfl,HB3.out⟩
    | true =>
      rw [hL,hin] at h
      have hr_:(notI l0_1 a1)=r:=by simpa using h
      subst hr_
      have HIN:=Aside0.mk hin
      have hin2:=hin
      simp only [List.all_cons,List.all_nil,Bool.and_true,Bool.and_eq_true,inR_iff] at hin2
      have Ia1:=Aside0.mk (hin2)
      clear h hL hin hin2
      go_enter Try.func32,Try.ntmps32
      go_wp2_with (first|((with_reducible refine gate_dst (N:=2) rfl ?_);refine box_event ?hg (N:=2) ?hd (cs:= #[.slice A0_0 l0_0.length c0_0,.slice A0_1 l0_1.length c0_1]) (t:=30) ?hr ?_;(case hd=>rfl);(case hg=>rfl);(case hr=>first|(go_simp;done)|(go_simp;rfl));intro gb hg_ w1 hbox hb;have HB:=Aside0.mk hb;have hx0:w1.cell? ⟨gb,0,none⟩=some (.slice A0_0 l0_0.length c0_0):=(blk_cell hbox 0).trans rfl;have hx1:w1.cell? ⟨gb,1,none⟩=some (.slice A0_1 l0_1.length c0_1):=(blk_cell hbox 1).trans rfl;have HX:=Aside0.mk hbox;clear hbox hb hg_)|(go_at_call 77;(with_reducible refine(told_y k _ _ l0_0 _ _ l0_1 _ ?s1 ?s2 ?s3 ?s4 HF.out HLB.out).mono ?_);(case s1=>exact Kd.C_below HR0.out HB.out);(case s2=>exact HC0.out);(case s3=>exact Kd.C_below HR1.out HB.out);(case s4=>exact HC1.out);rintro e w2 ⟨g,v,rfl,hv,hge,hb⟩;have HB2:=Aside0.mk (below_step HB.out hb);have HV:=Aside0.mk hv;clear hv hge hb hx0 hx1 HX HB)|(go_at_call 78;(with_reducible refine(knows_calls g l0_0 l0_1 v _ HLg.out ?s1 _ _ [a1] 1 rfl ?s2 (by omega) true HIN.out).mono ?_);(case s1=>exact View.alloc HV.out _);(case s2=>exact lit_C _ _ [a1] (by simp));rintro e w3 ⟨rfl,hb⟩;have HB3:=Aside0.mk (below_step (below_alloc HB2.out _) hb);have HV3:=Aside0.mk (View.below (View.alloc HV.out _) hb);clear hb;have b0_:=eq_true Ia1.out.1;have c0_:=eq_true Ia1.out.2;have hf3_:=HV3.out.f3;have n2_:=HV3.out.n a1 Ia1.out))
      go_ret
      exact⟨rfl,HB3.out⟩
def impl_NoOf.f (l0_0 : List (List Int)) (l0_1 : List Int) : Option (Int) := some (if logicB l0_0 l0_1 = true then (noI l0_0) else (-1))
set_option maxHeartbeats 1000000 in
theorem impl_NoOf.calls (A0_0 : Option Addr) (c0_0 : Nat) (l0_0 : List (List Int)) (A0_1 : Option Addr) (c0_1 : Nat) (l0_1 : List Int) (r : Int) (w : World) (hr0_0 : Kd.C (Kd.slice 3 (Kd.int .i64)) w A0_0 l0_0.length l0_0) (hc0_0 : l0_0.length ≤ c0_0) (hr0_1 : Kd.C (Kd.int .i64) w A0_1 l0_1.length l0_1) (hc0_1 : l0_1.length ≤ c0_1) (h : impl_NoOf.f l0_0 l0_1 = some r) :
    Calls Try.prog 47 #[.agg #[.slice A0_0 l0_0.length c0_0,.slice A0_1 l0_1.length c0_1]] w fun e w'=>e= .returned (.int .i64 r)∧Below w.heap.size w w':=by
  obtain⟨k,hF⟩:=told_facts l0_0
  have hu30:=Try.underlying30
  have hu70:=Try.underlying70
  have HF:=Aside0.mk hF
  have HR0:=Aside0.mk hr0_0
  have HC0:=Aside0.mk hc0_0
  have HR1:=Aside0.mk hr0_1
  have HC1:=Aside0.mk hc0_1
  simp only [impl_NoOf.f,Option.some.injEq] at h
  clear hr0_0 hc0_0 hr0_1 hc0_1 hF
  cases hL:logicB l0_0 l0_1 with
  | false =>
    rw [hL] at h
    have hr_:(-1)=r:=by simpa using h
    subst hr_
    have HLB:=Aside0.mk hL
    clear h hL
    go_enter Try.func47,Try.ntmps47
    go_wp2_with (first|((with_reducible refine gate_dst (N:=1) rfl ?_);refine box_event ?hg (N:=1) ?hd (cs:= #[.slice A0_0 l0_0.length c0_0,.slice A0_1 l0_1.length c0_1]) (t:=30) ?hr ?_;(case hd=>rfl);(case hg=>rfl);(case hr=>first|(go_simp;done)|(go_simp;rfl));intro gb hg_ w1 hbox hb;have HB:=Aside0.mk hb;have hx0:w1.cell? ⟨gb,0,none⟩=some (.slice A0_0 l0_0.length c0_0):=(blk_cell hbox 0).trans rfl;have hx1:w1.cell? ⟨gb,1,none⟩=some (.slice A0_1 l0_1.length c0_1):=(blk_cell hbox 1).trans rfl;have HX:=Aside0.mk hbox;clear hbox hb hg_)|(go_at_call 77;(with_reducible refine(told_n k _ _ l0_0 _ _ l0_1 _ ?s1 ?s2 ?s3 ?s4 HF.out HLB.out).mono ?_);(case s1=>exact Kd.C_below HR0.out HB.out);(case s2=>exact HC0.out);(case s3=>exact Kd.C_below HR1.out HB.out);(case s4=>exact HC1.out);rintro e w2 ⟨rfl,hb⟩;have HB2:=Aside0.mk (below_step HB.out hb);clear hb hx0 hx1 HX HB))
    go_ret
    exact⟨rfl,HB2.out⟩
  | true =>
    rw [hL] at h
    have hr_:(noI l0_0)=r:=by simpa using h
    subst hr_
    have HLB:=Aside0.mk hL
    have HLg:=Aside0.mk (logicB_iff.1 hL)
    clear h hL
    go_enter Try.func47,Try.ntmps47
    go_wp2_with (first|((with_reducible refine gate_dst (N:=1) rfl ?_);refine box_event ?hg (N:=1) ?hd (cs:= #[.slice A0_0 l0_0.length c0_0,.slice A0_1 l0_1.length c0_1]) (t:=30) ?hr ?_;(case hd=>rfl);(case hg=>rfl);(case hr=>first|(go_simp;done)|(go_simp;rfl));intro gb hg_ w1 hbox hb;have HB:=Aside0.mk hb;have hx0:w1.cell? ⟨gb,0,none⟩=some (.slice A0_0 l0_0.length c0_0):=(blk_cell hbox 0).trans rfl;have hx1:w1.cell? ⟨gb,1,none⟩=some (.slice A0_1 l0_1.length c0_1):=(blk_cell hbox 1).trans rfl;have HX:=Aside0.mk hbox;clear hbox hb hg_)|(go_at_call 77;(with_reducible refine(told_y k _ _ l0_0 _ _ l0_1 _ ?s1 ?s2 ?s3 ?s4 HF.out HLB.out).mono ?_);(case s1=>exact Kd.C_below HR0.out HB.out);(case s2=>exact HC0.out);(case s3=>exact Kd.C_below HR1.out HB.out);(case s4=>exact HC1.out);rintro e w2 ⟨g,v,rfl,hv,hge,hb⟩;have HB2:=Aside0.mk (below_step HB.out hb);have HV:=Aside0.mk hv;clear hv hge hb hx0 hx1 HX HB;have hf_:=HV.out.f4))
    go_ret
    exact⟨rfl,HB2.out⟩
theorem Drawn0.quiet {P : Program} {f : FuncId} {args : Array Value} {w : World} {n : Nat} {v : Value}
    (h:Calls P f args (w.drewN n) fun e w'=>e= .returned v∧Drawn0 (w.drewN n) w'):Calls P f args (w.drewN n) fun e w''=>e= .returned v∧ ∃m,w''=w.drewN m:=
  h.mono fun _ _ ⟨he,⟨⟨m,hm⟩⟩⟩=>⟨he,n+m,by rw [hm,World.drewN_drewN]⟩
theorem Drawn0.quiet2 {P : Program} {f : FuncId} {args : Array Value} {w : World} {a n : Nat} {v : Value}
    (h:Calls P f args (w.drewN (a+n)) fun e w'=>e= .returned v∧Drawn0 (w.drewN (a+n)) w'):Calls P f args (w.drewN (a+n)) fun e w''=>e= .returned v∧ ∃m,w''=w.drewN (a+m):=
  h.mono fun _ _ ⟨he,⟨⟨m,hm⟩⟩⟩=>⟨he,n+m,by rw [hm,World.drewN_drewN,Nat.add_assoc]⟩
theorem inR_one {U : List (List Int)} (x : Fin U.length) : [((x.1 : Nat) : Int)].all (inR U.length) = true := by
  simp only [List.all_cons, List.all_nil, Bool.and_true, inR_iff]; exact in_fin x
def filN (n : Nat) (p : Nat → Bool) : List Nat := (List.range n).filter p
theorem filI_eq (n : Nat) (p : Nat → Bool) : filI n p = (filN n p).map fun (s : Nat) => (s : Int) := rfl
theorem filI_len (n : Nat) (p : Nat → Bool) : (filI n p).length = (filN n p).length := by rw [filI_eq, List.length_map]
theorem filI_at (n : Nat) (p : Nat → Bool) (i : Nat) : at1 (filI n p) i = (((filN n p).getD i 0 : Nat) : Int) := by
  rw [filI_eq]
  simp only [at1, List.getD_eq_getElem?_getD, List.getElem?_map]
  cases (filN n p)[i]? <;> rfl
theorem filN_at {n : Nat} {p : Nat → Bool} {i : Nat} (h : i < (filN n p).length) : (filN n p).getD i 0 < n ∧ p ((filN n p).getD i 0) = true := by
  rw [List.getD_eq_getElem?_getD, List.getElem?_eq_getElem h]
  have h1 := List.mem_filter.1 (List.getElem_mem h)
  exact ⟨by simpa using h1.1, h1.2⟩
theorem filN_lt {n : Nat} (hn : n ≤ 4096) (p : Nat → Bool) (i : Nat) : (filN n p).getD i 0 < 4611686018427387904 := by
  by_cases h : i < (filN n p).length
  · have := (filN_at h).1; omega
  · rw [List.getD_eq_getElem?_getD, List.getElem?_eq_none (by omega)]; simp
theorem filN_len (n : Nat) (p : Nat → Bool) : (filN n p).length ≤ n := by
  have h1 := List.length_filter_le p (List.range n)
  rw [List.length_range] at h1
  exact h1
def cntF (l : List Nat) (a i : Nat) : Nat := (l.take i).countP fun s => s.testBit a
theorem cntF_succ (l : List Nat) (a : Nat) {i : Nat} (hi : i < l.length) : cntF l a (i + 1) = cntF l a i + if (l.getD i 0).testBit a = true then 1 else 0 := by
  unfold cntF
  rw [List.take_succ_eq_append_getElem hi,List.countP_append,List.countP_cons,List.countP_nil,List.getD_eq_getElem?_getD,List.getElem?_eq_getElem hi]
  simp
theorem cntF_le (l : List Nat) (a i : Nat) : cntF l a i ≤ i := by
  unfold cntF
  exact Nat.le_trans List.countP_le_length (by rw [List.length_take]; omega)
theorem cntF_all (l : List Nat) (a : Nat) : cntF l a l.length = l.countP fun s => s.testBit a := by unfold cntF; rw [List.take_length]
end Go.Proofs.Ytdoomkcgdcfmlaa.Print
end
section
namespace Go.Proofs.Ytdoomkcgdcfmlaa.Print
open Go.RowKit Go.Proofs.YtdoomkcgdcfmlaaW.PrintWords Go.Proofs.YtdoomkcgdcfmlaaW.PrintLast Go.Proofs.YtdoomkcgdcfmlaaW.PrintMore
def spec_DrawToldBy.f (k : Nat) (l0 : List Int) : Option ((List (List Int)) × List Int × Int) := (spec_l20Open.f l0).bind fun bt1063 => ((spec_l20Two.f k bt1063.1 bt1063.2 14).bind fun bt1066 => (some (bt1066.1, bt1066.2.1, bt1066.2.2.1)))
set_option maxHeartbeats 8000000 in
set_option maxRecDepth 100000 in
theorem spec_DrawToldBy.calls (k : Nat) (A0 : Option Addr) (c0 : Nat) (l0 : List Int) (r1 : List (List Int)) (r2 : List Int) (r3 : Int) (w : World) (hr0 : Kd.C (Kd.int .u8) w A0 l0.length l0) (hc0 : l0.length ≤ c0) (h : spec_DrawToldBy.f k l0 = some (r1, r2, r3)) :
  Calls Try.prog 61 #[.slice A0 l0.length c0] w fun e w' => ∃ v0_ v1_ : Value, e = .returned (.tuple #[.agg #[v0_, v1_], .int .i64 r3]) ∧ Kd.S (Kd.slice 3 (Kd.int .i64)) 28 w' w.heap.size (fun k_ => some k_ ≠ (v1_ : Value).ownBlock) v0_ r1 ∧ Kd.Q (Kd.int .i64) 3 w' w.heap.size (fun _ => True) v1_ r2 ∧ Below w.heap.size w w' := by
 have hu30:=Try.underlying30;have e6:=zqm hr0;have e7:=zqm hc0;clear hr0 hc0;have HB:=zqm (Below.refl w.heap.size w);have H:((spec_l20Open.f l0).bind fun c5=>((spec_l20Two.f k c5.1 c5.2 14).bind fun a6=>(some (a6.1,a6.2.1,a6.2.2.1))))=some (r1,r2,r3):=h;clear h;replace H:=Option.bind_eq_some_iff.mp H;obtain⟨⟨b2,c3⟩,d0,H⟩:=H;replace H:((spec_l20Two.f k b2 c3 14).bind fun a6=>(some (a6.1,a6.2.1,a6.2.2.1)))=some (r1,r2,r3):=H;have A2:=zqm d0;clear d0;replace H:=Option.bind_eq_some_iff.mp H;obtain⟨⟨a7,b0,c7,c9,c4⟩,d1,H⟩:=H;replace H:(some (a7,b0,c7))=some (r1,r2,r3):=H;have A3:=zqm d1;clear d1;simp only [Option.some.injEq,Prod.mk.injEq] at H;obtain⟨rfl,rfl,rfl⟩:=H
 go_enter Try.func61,Try.ntmps61
 go_wp2_with (first|((with_reducible refine gate_dst (N:=2) rfl ?_);refine box_event ?hg (N:=2) ?hd (cs:= #[.slice none 0 0,.slice none 0 0]) (t:=30) ?hr ?_;(case hd=>rfl);(case hg=>rfl);(case hr=>first|(go_simp;done)|(go_simp;rfl));intro a1 hg w4 hbox hb;have c6:=zqm (below_step zq0 hb);have a0:=zqm (hbox);have e8:=zqm ((by rw [hg];exact(below_size zq0):w.heap.size≤a1));have a5:=zqm ((by rw [hg];exact(below_size zq0):w.heap.size≤a1));clear HB;have HB:=c6;clear c6 hb hbox hg)|((with_reducible refine gate_callee (f:=72) rfl ?_);refine goesL_ (some 9) rfl rfl Try.func72 zqk rfl #[.slice A0 l0.length c0] rfl zq1 ?_;(with_reducible refine(spec_l20Open.calls _ _ l0 b2 c3 w _ ?side1 ?side2 ?side3 A2.out).mono ?_);(case side1=> exact zq18);(case side2=>exact e6.out);(case side3=>exact e7.out);rintro e w5 ⟨g1065,rfl,hi,hb,hb2⟩;refine⟨_,rfl,?_⟩;have c6:=zqm (blk_below (g:=a1) (o:= .cells #[.slice none 0 0,.slice none 0 0] 30 (0,0)) zq2 hb2);replace HB:=zqm (hb);have a2:=zqm (hi);have a4:=zqm (IsS87.ne_blk hi (blk_below (g:=a1) (o:= .cells #[.slice none 0 0,.slice none 0 0] 30 (0,0)) zq2 hb2) (by decide));have b1:=zqm (Ne.symm (IsS87.ne_blk hi (blk_below (g:=a1) (o:= .cells #[.slice none 0 0,.slice none 0 0] 30 (0,0)) zq2 hb2) (by decide)));clear a0;have a0:=c6;clear c6 hb hb2 hi)|((with_reducible refine gate_callee (f:=76) rfl ?_);refine goesL_ (some 12) rfl rfl Try.func76 zqk rfl #[.pointer (some ⟨g1065,0,none⟩),.int .i64 14] rfl zq1 ?_;(with_reducible refine(spec_l20Two.calls k g1065 b2 c3 14 a7 b0 c7 c9 c4 w _ ?side1 ?side2 A3.out).mono ?_);(case side1=> exact zq128);(case side2=> exact zq30);rintro e w6 ⟨f1,f2,rfl,d2,d3,hi,hb,hk⟩;refine⟨_,rfl,?_⟩;replace a0:=zqm (KeepBut.blk hk (g':=a1) (o:= .cells #[.slice none 0 0,.slice none 0 0] 30 (0,0)) zq2 b1.out (by simp));have b3:=zqm (Kd.S_lower d2 (below_size zq30));have b4:=zqm (Kd.Q_lower d3 (below_size zq30));replace HB:=zqm (hb);replace a2:=zqm (hi);clear hb hk hi d2 d3)|((with_reducible refine gate_dst (N:=5) rfl ?_);refine box_event ?hg (N:=5) ?hd (cs:= #[.slice none 0 0,.slice none 0 0]) (t:=30) ?hr ?_;(case hd=>rfl);(case hg=>rfl);(case hr=>first|(go_simp;done)|(go_simp;rfl));intro a3 hg w7 hbox hb;replace b3:=zqm (Kd.S_below zq171 hb);replace b4:=zqm (Kd.Q_below zq275 hb);have d4:=zqm (blk_below (g:=a1) (o:= .cells #[.slice none 0 0,.slice none 0 0] 30 (0,0)) zq2 hb);have d5:=zqm (IsS87.below zq128 hb);have d6:=zqm (below_step zq30 hb);have a9:=zqm (hbox);have e9:=zqm ((by rw [hg];exact(below_size zq30):w.heap.size≤a3));have c8:=zqm ((by rw [hg];exact(below_size zq30):w.heap.size≤a3));have a8:=zqm ((by rw [hg];exact Nat.ne_of_lt (blk_lt (g:=a1) (o:= .cells #[.slice none 0 0,.slice none 0 0] 30 (0,0)) zq2):a1≠a3));have b7:=zqm ((by rw [hg];exact Nat.ne_of_gt (blk_lt (g:=a1) (o:= .cells #[.slice none 0 0,.slice none 0 0] 30 (0,0)) zq2):a3≠a1));have b8:=zqm ((by rw [hg];exact Nat.ne_of_lt (IsS87.lt (show IsS87 w _ g1065 b2 c4 from by repeat(first|(with_reducible first|exact a2.out|apply IsS87.alloc|apply IsS87.drewN|apply IsS87.drew|apply IsS87.set_1|refine IsS87.far ?_ a4.out _)|exact a2.out))):g1065≠a3));have b9:=zqm ((by rw [hg];exact Nat.ne_of_gt (IsS87.lt (show IsS87 w _ g1065 b2 c4 from by repeat(first|(with_reducible first|exact a2.out|apply IsS87.alloc|apply IsS87.drewN|apply IsS87.drew|apply IsS87.set_1|refine IsS87.far ?_ a4.out _)|exact a2.out))):a3≠g1065));clear a0 a2 HB;have a0:=d4;have a2:=d5;have HB:=d6;clear d4 d5 d6 hb hbox hg;obtain⟨c1,c2,f0⟩:=Kd.S_slice b3.out;subst f0;have f7:=b7.out;have f8:=a8.out;have f3:=b9.out;have f4:=b8.out;have d8:w7.cell? ⟨a3,0,none⟩=some (.slice none 0 0):=(blk_cell a9.out 0).trans rfl;have d9:w7.cell? ⟨a3,1,none⟩=some (.slice none 0 0):=(blk_cell a9.out 1).trans rfl;have e0:=blk_frozen a9.out 0;have e1:=blk_frozen a9.out 1;obtain⟨b5,b6,d7,_⟩:=Kd.Q_slice b4.out;subst d7;have f5:=b1.out;have f6:=a4.out;have e2:w7.cell? ⟨a1,0,none⟩=some (.slice none 0 0):=(blk_cell a0.out 0).trans rfl;have e3:w7.cell? ⟨a1,1,none⟩=some (.slice none 0 0):=(blk_cell a0.out 1).trans rfl;have e4:=blk_frozen a0.out 0;have e5:=blk_frozen a0.out 1))
 refine bodyPost_ret (results_ct rfl _ _ a1 30 #[.slice c1 a7.length c2,.slice b5 b0.length b6] (0,0) _ rfl (by(with_reducible repeat(first|refine blk_drewN ?_ _|refine blk_drew ?_|refine blk_alloc ?_ _));refine blk_put (cs:= #[.slice c1 a7.length c2,.slice none 0 0]) ?_ 1 _ rfl;(with_reducible repeat(first|refine blk_drewN ?_ _|refine blk_drew ?_|refine blk_alloc ?_ _));refine blk_put (cs:= #[.slice none 0 0,.slice none 0 0]) ?_ 0 _ rfl;(with_reducible repeat(first|refine blk_drewN ?_ _|refine blk_drew ?_|refine blk_alloc ?_ _));refine blk_far ?_ a8.out _;(with_reducible repeat(first|refine blk_drewN ?_ _|refine blk_drew ?_|refine blk_alloc ?_ _));refine blk_far ?_ a8.out _;(with_reducible repeat(first|refine blk_drewN ?_ _|refine blk_drew ?_|refine blk_alloc ?_ _));exact a0.out) Try.underlying30 rfl zqk) rfl ?_;exact⟨_,_,zq11,by(with_reducible repeat(first|apply Kd.S_alloc|apply Kd.S_drewN|apply Kd.S_drew));exact Kd.S_mono (Kd.S_far (p:=⟨a1,1,none⟩) (Kd.S_far (p:=⟨a1,0,none⟩) (Kd.S_far (p:=⟨a3,1,none⟩) (Kd.S_far (p:=⟨a3,0,none⟩) (Kd.S_types (Kd.S_types b3.out a9.out (by decide)) a0.out (by decide)) (fun _ hk=>hk.1.2) (.slice c1 a7.length c2)) (fun _ hk=>hk.1.2) (.slice b5 b0.length b6)) (fun _ hk=>hk.2) (.slice c1 a7.length c2)) (fun _ hk=>hk.2) (.slice b5 b0.length b6)) (fun _ hk=>hk.1.1),by(with_reducible repeat(first|apply Kd.Q_alloc|apply Kd.Q_drewN|apply Kd.Q_drew));exact Kd.Q_mono (Kd.Q_far (p:=⟨a1,1,none⟩) (Kd.Q_far (p:=⟨a1,0,none⟩) (Kd.Q_far (p:=⟨a3,1,none⟩) (Kd.Q_far (p:=⟨a3,0,none⟩) (Kd.Q_types (Kd.Q_types b4.out a9.out (by decide)) a0.out (by decide)) (fun _ hk=>hk.1.2) (.slice c1 a7.length c2)) (fun _ hk=>hk.1.2) (.slice b5 b0.length b6)) (fun _ hk=>hk.2) (.slice c1 a7.length c2)) (fun _ hk=>hk.2) (.slice b5 b0.length b6)) (fun _ hk=>trivial),zq176⟩
end Go.Proofs.Ytdoomkcgdcfmlaa.Print
end
section
namespace Go.Proofs.Ytdoomkcgdcfmlaa.Print
open Go.RowKit Go.Proofs.YtdoomkcgdcfmlaaW.PrintWords Go.Proofs.YtdoomkcgdcfmlaaW.PrintLast Go.Proofs.YtdoomkcgdcfmlaaW.PrintMore
mutual
def spec_l9State.l0 : Nat → Int → Int → List (List Int) → List Int → Option (Bool)
 | 0, _, _, _, _ => none
 | k + 1, x1, x7, x995000, x995001 => if x7 < (x995001.length : Int) then (if 0 ≤ x7 then (if 0 ≤ (rd x995001 x7) then (if (wrap64 ((Int.tmod (shr .i64 x1 x7) 2) + (Int.tmod (shr .i64 x1 (rd x995001 x7)) 2))) = 1 then (spec_l9State.l1 k x1 x7 0 x995000 x995001) else (some false)) else (none)) else (none)) else (some true)
def spec_l9State.l1 : Nat → Int → Int → Int → List (List Int) → List Int → Option (Bool)
 | 0, _, _, _, _, _ => none
 | k + 1, x1, x7, x8, x995000, x995001 => if x8 < x7 then (if 0 ≤ x7 then (if x7 < (x995000.length : Int) then (if 0 ≤ x8 then (if x8 < (x995001.length : Int) then (if 0 ≤ (rd x995001 x8) then (if (rd x995001 x8) < ((rd_L3 x995000 x7).length : Int) then (if (rd (rd_L3 x995000 x7) (rd x995001 x8)) = 1 then ((spec_l1Join.f k x995000 x7 x8).bind fun t999 => (if 0 ≤ t999 then (if (wrap64 ((Int.tmod (shr .i64 x1 x7) 2) + (Int.tmod (shr .i64 x1 x8) 2))) = (Int.tmod (shr .i64 x1 t999) 2) then (spec_l9State.l1 k x1 x7 (wrap64 (x8 + 1)) x995000 x995001) else (some false)) else (none))) else (spec_l9State.l1 k x1 x7 (wrap64 (x8 + 1)) x995000 x995001)) else (none)) else (none)) else (none)) else (none)) else (none)) else (none)) else (spec_l9State.l0 k x1 (wrap64 (x7 + 1)) x995000 x995001)
end
def spec_l9State.f (k : Nat) (l0_0 : List (List Int)) (l0_1 : List Int) (a1 : Int) (a2 : Int) : Option (Bool) := if 0 ≤ a2 then (if (Int.tmod (shr .i64 a1 a2) 2) = 0 then (some false) else (spec_l9State.l0 k a1 0 l0_0 l0_1)) else (none)
def spec_l9State.T6 : Bool × List (List Nat × List Nat) := (true, [([], []), ([], []), ([0, 1], [0, 1]), ([2], [2]), ([], []), ([], []), ([5], [5]), ([], []), ([6, 7], [6, 7]), ([8], [8]), ([4, 9], [4, 9]), ([10], [10]), ([3, 11], [3, 11]), ([12], [12])])
def spec_l9State.B6 : List Nat := [0, 0, 3, 7, 0, 0, 32, 0, 224, 480, 1008, 2032, 4095, 8191]
theorem spec_l9State.tab6 : rtab .any (opsOf Try.f105 6) = spec_l9State.T6 := by kernel_rfl
theorem spec_l9State.bits6 : waitsOk spec_l9State.T6.2 spec_l9State.B6 = true := by kernel_rfl
def spec_l9State.T11 : Bool × List (List Nat × List Nat) := (true, [([], []), ([0], [0]), ([], []), ([1, 2], [1, 2]), ([3], [3]), ([], []), ([5], [5]), ([], []), ([6, 7], [6, 7]), ([8], [8]), ([4, 9], [4, 9]), ([10], [10]), ([11], [11]), ([12], [12]), ([13], [13]), ([13], [13]), ([14, 15, 13], [13, 14, 15]), ([16, 13], [13, 16]), ([13], [13]), ([13], [13]), ([18, 19, 13], [13, 18, 19]), ([20, 13], [13, 20]), ([17, 21, 13], [13, 17, 21]), ([13], [13]), ([13], [13]), ([24, 13], [13, 24]), ([13], [13]), ([13], [13]), ([25, 26, 27, 13, 13], [13, 25, 26, 27]), ([23, 28, 13], [13, 23, 28]), ([29, 13], [13, 29]), ([22, 30, 13], [13, 22, 30]), ([13, 31], [13, 31])])
def spec_l9State.B11 : List Nat := [0, 1, 0, 7, 15, 0, 32, 0, 224, 480, 1023, 2047, 4095, 8191, 16383, 16383, 65535, 131071, 16383, 16383, 802815, 1851391, 4194303, 16383, 16383, 16793599, 16383, 16383, 251674623, 528498687, 1065369599, 2147483647, 4294967295]
theorem spec_l9State.tab11 : rtab .any (opsOf Try.f105 11) = spec_l9State.T11 := by kernel_rfl
theorem spec_l9State.bits11 : waitsOk spec_l9State.T11.2 spec_l9State.B11 = true := by kernel_rfl
set_option maxHeartbeats 8000000 in
set_option maxRecDepth 100000 in
theorem spec_l9State.calls (k : Nat) (A0_0 : Option Addr) (c0_0 : Nat) (l0_0 : List (List Int)) (A0_1 : Option Addr) (c0_1 : Nat) (l0_1 : List Int) (a1 : Int) (a2 : Int) (r : Bool) (w : World) (hr0_0 : Kd.C (Kd.slice 3 (Kd.int .i64)) w A0_0 l0_0.length l0_0) (hc0_0 : l0_0.length ≤ c0_0) (hr0_1 : Kd.C (Kd.int .i64) w A0_1 l0_1.length l0_1) (hc0_1 : l0_1.length ≤ c0_1) (h : spec_l9State.f k l0_0 l0_1 a1 a2 = some r) :
  Calls Try.prog 105 #[.agg #[.slice A0_0 l0_0.length c0_0, .slice A0_1 l0_1.length c0_1], .int .i64 a1, .int .i64 a2] w fun e w' => e = .returned (.bool r) ∧ Below w.heap.size w w' := by
 have hu30:=Try.underlying30;have e1:=zqm hr0_0;have g8:=zqm hc0_0;clear hr0_0 hc0_0;have e2:=zqm hr0_1;have k7:=zqm hc0_1;clear hr0_1 hc0_1;have HB:=zqm (Below.refl w.heap.size w);have H:(if 0≤a2 then(if(Int.tmod (shr .i64 a1 a2) 2)=0 then(some false) else(spec_l9State.l0 k a1 0 l0_0 l0_1)) else(none))=some r:=h;clear h
 by_cases c4:0≤a2
 ·rw [if_pos c4] at H;have h9:=eq_true c4;have i0:decide (0≤a2)=true:=decide_eq_true c4;clear c4;obtain⟨e5,d4⟩: ∃j_:Int,(shr .i64 a1 a2)=j_:=⟨_,rfl⟩;(replace H:(if(Int.tmod (e5) 2)=0 then(some false) else(spec_l9State.l0 k a1 0 l0_0 l0_1))=some r:=by first|(rw [d4] at H;exact H)|(simp only [d4] at H ⊢;exact H));have k8:(a1 / 2 ^ min a2.toNat 64)=e5:=d4;have hji5z:a2≤64→(a1 / 2 ^ a2.toNat)=e5:=shr_small d4
  by_cases c6:(Int.tmod (e5) 2)=0
  ·rw [if_pos c6] at H;have g5:((Int.tmod (e5) 2)==0)=true:=beq_iff_eq.mpr c6;have g6:((Int.tmod (e5) 2) !=0)=false:=bne_eq_false_iff_eq.mpr c6;clear c6;obtain rfl:=Option.some.inj H
   go_enter Try.func105,Try.ntmps105
   go_wp2_with (first|((with_reducible refine gate_dst (N:=3) rfl ?_);refine box_event ?hg (N:=3) ?hd (cs:= #[.slice A0_0 l0_0.length c0_0,.slice A0_1 l0_1.length c0_1]) (t:=30) ?hr ?_;(case hd=>rfl);(case hg=>rfl);(case hr=>first|(go_simp;done)|(go_simp;rfl));intro a8 hg w7 hbox hb;have g2:=zqm (below_step zq0 hb);have a4:=zqm (hbox);have i4:=zqm ((by rw [hg];exact(below_size zq0):w.heap.size≤a8));have b8:=zqm ((by rw [hg];exact(below_size zq0):w.heap.size≤a8));clear HB;have HB:=g2;clear g2 hb hbox hg))
   go_ret
   exact⟨zq352,zq91⟩
  ·rw [if_neg c6] at H;have g5:((Int.tmod (e5) 2)==0)=false:=beq_eq_false_iff_ne.mpr c6;have g6:((Int.tmod (e5) 2) !=0)=true:=bne_iff_ne.mpr c6;have H':=zqm H;clear H
   go_enter Try.func105,Try.ntmps105
   go_wp2_with (first|((with_reducible refine gate_dst (N:=3) rfl ?_);refine box_event ?hg (N:=3) ?hd (cs:= #[.slice A0_0 l0_0.length c0_0,.slice A0_1 l0_1.length c0_1]) (t:=30) ?hr ?_;(case hd=>rfl);(case hg=>rfl);(case hr=>first|(go_simp;done)|(go_simp;rfl));intro a8 hg w8 hbox hb;have g2:=zqm (below_step zq0 hb);have a4:=zqm (hbox);have i4:=zqm ((by rw [hg];exact(below_size zq0):w.heap.size≤a8));have b8:=zqm ((by rw [hg];exact(below_size zq0):w.heap.size≤a8));clear HB;have HB:=g2;clear g2 hb hbox hg))
   go_loopg [7] k (fun kq v7 w'=> ∃(a0:Int),v7= .int .i64 a0∧Aside0 (spec_l9State.l0 kq a1 a0 l0_0 l0_1=some r)∧Aside0 (kq≤k)∧Aside0 (w'.heap[a8]? =some (.cells #[(.slice A0_0 l0_0.length c0_0),(.slice A0_1 l0_1.length c0_1)] 30 (0,0)))∧Aside0 (Below w.heap.size w w'))
   case atStart=>exact⟨(0),(by first|rfl|(simp;done)|(simp [*];done)),H',⟨Nat.le_refl _⟩,⟨zq13⟩,⟨zq91⟩⟩
   case round=>
    clear H';(try clear c1);(try clear p2);(try clear c4);(try clear h9);(try clear i0);(try clear c6);(try clear g5);(try clear g6);obtain⟨a0,rfl,HA,f4,a4,HB⟩:=hrel
    cases gk with
    |zero=>exact absurd HA.out (by simp [spec_l9State.l0])
    |succ k1=>
     have H:=HA.out;clear HA;simp only [spec_l9State.l0] at H
     by_cases c9:a0<(l0_1.length:Int)
     ·rw [if_pos c9] at H;have i1:decide (a0<(l0_1.length:Int))=true:=decide_eq_true c9;clear c9
      by_cases f5:0≤a0
      ·rw [if_pos f5] at H;have i5:=eq_true f5;have i6:decide (0≤a0)=true:=decide_eq_true f5;clear f5;obtain⟨b6,d3⟩: ∃j_:Int,(shr .i64 a1 a0)=j_:=⟨_,rfl⟩;(replace H:(if 0≤(rd l0_1 a0) then(if(wrap64 ((Int.tmod (b6) 2)+(Int.tmod (shr .i64 a1 (rd l0_1 a0)) 2)))=1 then(spec_l9State.l1 k1 a1 a0 0 l0_0 l0_1) else(some false)) else(none))=some r:=by first|(rw [d3] at H;exact H)|(simp only [d3] at H ⊢;exact H));have k0:(a1 / 2 ^ min a0.toNat 64)=b6:=d3;have hji11z:a0≤64→(a1 / 2 ^ a0.toNat)=b6:=shr_small d3
       by_cases f6:0≤(rd l0_1 a0)
       ·rw [if_pos f6] at H;have i7:=eq_true f6;have i8:decide (0≤(rd l0_1 a0))=true:=decide_eq_true f6;clear f6;obtain⟨c0,d8⟩: ∃j_:Int,(shr .i64 a1 (rd l0_1 a0))=j_:=⟨_,rfl⟩;(replace H:(if(wrap64 ((Int.tmod (b6) 2)+(Int.tmod (c0) 2)))=1 then(spec_l9State.l1 k1 a1 a0 0 l0_0 l0_1) else(some false))=some r:=by first|(rw [d8] at H;exact H)|(simp only [d8] at H ⊢;exact H));have k3:(a1 / 2 ^ min (rd l0_1 a0).toNat 64)=c0:=d8;have hji13z:(rd l0_1 a0)≤64→(a1 / 2 ^ (rd l0_1 a0).toNat)=c0:=shr_small d8
        by_cases e6:(wrap64 ((Int.tmod (b6) 2)+(Int.tmod (c0) 2)))=1
        ·rw [if_pos e6] at H;have e7:((wrap64 ((Int.tmod (b6) 2)+(Int.tmod (c0) 2)))==1)=true:=beq_iff_eq.mpr e6;(have c14w0:((IntKind.i64.wrap ((Int.tmod (b6) 2)+(Int.tmod (c0) 2)))==1)=true:=by simp only [i64_w];exact e7);have e8:((wrap64 ((Int.tmod (b6) 2)+(Int.tmod (c0) 2))) !=1)=false:=bne_eq_false_iff_eq.mpr e6;(have c14w1:((IntKind.i64.wrap ((Int.tmod (b6) 2)+(Int.tmod (c0) 2))) !=1)=false:=by simp only [i64_w];exact e8);clear e6;have H':=zqm H;clear H;have h5:wr.cell? ⟨a8,0,none⟩=some (.slice A0_0 l0_0.length c0_0):=(blk_cell a4.out 0).trans rfl;have h6:wr.cell? ⟨a8,1,none⟩=some (.slice A0_1 l0_1.length c0_1):=(blk_cell a4.out 1).trans rfl;have h7:=blk_frozen a4.out 0;have h8:=blk_frozen a4.out 1;(try go_wp2);replace a4:=zqm (blk_drew a4.out);replace HB:=zqm (below_drew1 HB.out);have d5:0≤(a0:Int):=zqo;have d6:a0<(l0_1.length:Int):=zqo;obtain⟨b0,g7,a9⟩:=Kd.at_int e2.out a0 d5 d6;have hw995_0:=a9
         cases g7
         replace a9:=(HB.out.cell (World.block_lt_of_cell? w _ a9)).trans a9;replace d5:=eq_true d5;replace d6:=eq_true d6;refine start_ (n:=14) (S:=fun w'=>w'.cell? ⟨a8,0,none⟩=some (.slice A0_0 l0_0.length c0_0)∧w'.cell? ⟨a8,1,none⟩=some (.slice (some b0) l0_1.length c0_1)∧w'.cell? (b0.add (a0).toNat)=some (.int .i64 (rd l0_1 a0))) (ds:= []) (zqb 14 0) zqk rfl rfl ⟨(blk_cell a4.out 0).trans rfl,(blk_cell a4.out 1).trans rfl,((HB.out.cell (World.block_lt_of_cell? w _ hw995_0)).trans hw995_0)⟩ (fun hHeld=>?_);refine with_tabW spec_l9State.tab6 spec_l9State.bits6 (fun HT_ HW_=>?_);generalize wr.drew=m1 at a4 HB a9 hHeld ⊢;refine pure_ (i:=0) (N:=some 21) (v:=?_) (a':=?_) (zqb 14 1) rfl rfl (any_of HT_.out zqk) (fun _ _ _ h=>h) (Or.inl ⟨by rfl,?_⟩) ?_ ?_;rotate_left
         ·exact zqt
         rotate_left
         ·exact zqs
         refine pure_ (i:=1) (N:=some 22) (v:=?_) (a':=?_) (zqb 14 3) rfl rfl (any_of HT_.out zqk) (fun _ _ _ h=>h) (Or.inl ⟨by rfl,?_⟩) ?_ ?_;rotate_left
         ·exact zqt
         rotate_left
         ·exact zqs
         refine pure_ (i:=2) (N:=some 23) (v:=?_) (a':=?_) (zqb 14 7) rfl rfl (any_of HT_.out zqk) (fun _ _ _ h=>h) (Or.inl ⟨by rfl,?_⟩) ?_ ?_;rotate_left
         ·exact zqt
         rotate_left
         ·exact zqs
         refine pure_ (i:=3) (N:=some 24) (v:=?_) (a':=?_) (zqb 14 15) rfl rfl (any_of HT_.out zqk) (fun _ _ _ h=>h) (Or.inl ⟨by rfl,?_⟩) ?_ ?_;rotate_left
         ·exact zqt
         rotate_left
         ·exact zqs
         refine pure_ (i:=4) (N:=some 25) (v:=?_) (a':=?_) (zqb 14 31) rfl rfl (any_of HT_.out zqk) (fun _ _ _ h=>h) (Or.inl ⟨by rfl,?_⟩) ?_ ?_;rotate_left
         ·exact zqt
         rotate_left
         ·exact zqs
         refine pure_ (i:=5) (N:=some 26) (v:=?_) (a':=?_) (zqb 14 63) rfl rfl (any_of HT_.out zqk) (fun _ _ _ h=>h) (Or.inl ⟨by rfl,?_⟩) ?_ ?_;rotate_left
         ·exact zqt
         rotate_left
         ·exact zqs
         refine pure_ (i:=7) (N:=some 28) (v:=?_) (a':=?_) (zqb 14 191) rfl rfl (any_of HT_.out zqk) (fun _ _ _ h=>h) (Or.inl ⟨by rfl,?_⟩) ?_ ?_;rotate_left
         ·exact zqt
         rotate_left
         ·exact zqs
         refine take_ (i:=6) (N:=some 27) (v:=?_) (a':=?_) (zqb 14 255) rfl rfl (take_ofW HT_.out HW_.out zqk) (fun _ _ _ h=>h) (Or.inl ⟨by rfl,?_⟩) hHeld ?_ ?_;rotate_left
         ·rintro w' ⟨s0,s1,s2⟩;go_simp;with_reducible rfl
         rotate_left
         ·exact zqs
         refine pure_ (i:=8) (N:=some 29) (v:=?_) (a':=?_) (zqb 14 511) rfl rfl (any_of HT_.out zqk) (fun _ _ _ h=>h) (Or.inl ⟨by rfl,?_⟩) ?_ ?_;rotate_left
         ·exact zqt
         rotate_left
         ·exact zqs
         refine take_ (i:=9) (N:=some 30) (v:=?_) (a':=?_) (zqb 14 1023) rfl rfl (take_ofW HT_.out HW_.out zqk) (fun _ _ _ h=>h) (Or.inl ⟨by rfl,?_⟩) hHeld ?_ ?_;rotate_left
         ·rintro w' ⟨s0,s1,s2⟩;go_simp;with_reducible rfl
         rotate_left
         ·exact zqs
         refine pure_ (i:=10) (N:=some 31) (v:=?_) (a':=?_) (zqb 14 2047) rfl rfl (any_of HT_.out zqk) (fun _ _ _ h=>h) (Or.inl ⟨by rfl,?_⟩) ?_ ?_;rotate_left
         ·exact zqt
         rotate_left
         ·exact zqs
         refine pure_ (i:=11) (N:=some 32) (v:=?_) (a':=?_) (zqb 14 4095) rfl rfl (any_of HT_.out zqk) (fun _ _ _ h=>h) (Or.inl ⟨by rfl,?_⟩) ?_ ?_;rotate_left
         ·exact zqt
         rotate_left
         ·exact zqs
         refine pure_ (i:=12) (N:=some 33) (v:=?_) (a':=?_) (zqb 14 8191) rfl rfl (any_of HT_.out zqk) (fun _ _ _ h=>h) (Or.inl ⟨by rfl,?_⟩) ?_ ?_;rotate_left
         ·exact zqt
         rotate_left
         ·exact zqs
         refine pure_ (i:=13) (N:=some 34) (v:=?_) (a':=?_) (zqb 14 16383) rfl rfl (any_of HT_.out zqk) (fun _ _ _ h=>h) (Or.inl ⟨by rfl,?_⟩) ?_ ?_;rotate_left
         ·exact zqt
         rotate_left
         ·exact zqs
         refine done_ (done_of HT_.out zqk) ?_;try go_wp2
         go_loopg [8] k1 (fun kq v8 w'=> ∃(a3:Int),v8= .int .i64 a3∧Aside0 (spec_l9State.l1 kq a1 a0 a3 l0_0 l0_1=some r)∧Aside0 (kq≤k1)∧Aside0 (w'.heap[a8]? =some (.cells #[(.slice A0_0 l0_0.length c0_0),(.slice (some b0) l0_1.length c0_1)] 30 (0,0)))∧Aside0 (Below w.heap.size w w'))
         case atStart=>exact⟨(0),(by first|rfl|(simp;done)|(simp [*];done)),H',⟨Nat.le_refl _⟩,⟨zq13⟩,⟨zq91⟩⟩
         case round=>
          clear H';(try clear c1);(try clear p2);(try clear c4);(try clear h9);(try clear i0);(try clear c6);(try clear g5);(try clear g6);(try clear p6);(try clear c9);(try clear i1);(try clear p9);(try clear q9);(try clear m2);(try clear f5);(try clear i5);(try clear i6);(try clear f6);(try clear i7);(try clear i8);(try clear e6);(try clear e7);(try clear e8);(try clear h5);(try clear h6);(try clear h7);(try clear h8);(try clear a9);(try clear p2);(try clear d5);(try clear d6);obtain⟨a3,rfl,HA,f7,a4,HB⟩:=hrel
          cases gk with
          |zero=>exact absurd HA.out (by simp [spec_l9State.l1])
          |succ k2=>
           have H:=HA.out;clear HA;simp only [spec_l9State.l1] at H
           by_cases f8:a3<a0
           ·rw [if_pos f8] at H;have i9:decide (a3<a0)=true:=decide_eq_true f8;clear f8
            by_cases g9:0≤a0
            ·rw [if_pos g9] at H;have k9:decide (0≤a0)=true:=decide_eq_true g9;clear g9
             by_cases h0:a0<(l0_0.length:Int)
             ·rw [if_pos h0] at H;have l2:decide (a0<(l0_0.length:Int))=true:=decide_eq_true h0;clear h0
              by_cases h1:0≤a3
              ·rw [if_pos h1] at H;have l3:decide (0≤a3)=true:=decide_eq_true h1;clear h1
               by_cases h2:a3<(l0_1.length:Int)
               ·rw [if_pos h2] at H;have l4:decide (a3<(l0_1.length:Int))=true:=decide_eq_true h2;clear h2
                by_cases h3:0≤(rd l0_1 a3)
                ·rw [if_pos h3] at H;have l5:decide (0≤(rd l0_1 a3))=true:=decide_eq_true h3;clear h3
                 by_cases h4:(rd l0_1 a3)<((rd_L3 l0_0 a0).length:Int)
                 ·rw [if_pos h4] at H;have l6:decide ((rd l0_1 a3)<((rd_L3 l0_0 a0).length:Int))=true:=decide_eq_true h4;clear h4
                  by_cases e9:(rd (rd_L3 l0_0 a0) (rd l0_1 a3))=1
                  ·rw [if_pos e9] at H;have j0:((rd (rd_L3 l0_0 a0) (rd l0_1 a3))==1)=true:=beq_iff_eq.mpr e9;have j1:((rd (rd_L3 l0_0 a0) (rd l0_1 a3)) !=1)=false:=bne_eq_false_iff_eq.mpr e9;clear e9;have l7:=eq_true (zqo:0≤a0);obtain⟨b1,d9⟩: ∃j_:Int,(shr .i64 a1 a0)=j_:=⟨_,rfl⟩;(first|(obtain rfl:b1=b6:=d9.symm.trans d3)|skip);(replace H:((spec_l1Join.f k2 l0_0 a0 a3).bind fun b2=>(if 0≤b2 then(if(wrap64 ((Int.tmod (b1) 2)+(Int.tmod (shr .i64 a1 a3) 2)))=(Int.tmod (shr .i64 a1 b2) 2) then(spec_l9State.l1 k2 a1 a0 (wrap64 (a3+1)) l0_0 l0_1) else(some false)) else(none)))=some r:=by first|(rw [d9] at H;exact H)|(simp only [d9] at H ⊢;exact H));have k4:(a1 / 2 ^ min a0.toNat 64)=b1:=d9;have hji26z:a0≤64→(a1 / 2 ^ a0.toNat)=b1:=shr_small d9;have l8:=eq_true (zqo:0≤a3);obtain⟨b7,e3⟩: ∃j_:Int,(shr .i64 a1 a3)=j_:=⟨_,rfl⟩;(replace H:((spec_l1Join.f k2 l0_0 a0 a3).bind fun b2=>(if 0≤b2 then(if(wrap64 ((Int.tmod (b1) 2)+(Int.tmod (b7) 2)))=(Int.tmod (shr .i64 a1 b2) 2) then(spec_l9State.l1 k2 a1 a0 (wrap64 (a3+1)) l0_0 l0_1) else(some false)) else(none)))=some r:=by first|(rw [e3] at H;exact H)|(simp only [e3] at H ⊢;exact H));have k5:(a1 / 2 ^ min a3.toNat 64)=b7:=e3;have hji28z:a3≤64→(a1 / 2 ^ a3.toNat)=b7:=shr_small e3;replace H:=Option.bind_eq_some_iff.mp H;obtain⟨b2,i2,H⟩:=H;replace H:(if 0≤b2 then(if(wrap64 ((Int.tmod (b1) 2)+(Int.tmod (b7) 2)))=(Int.tmod (shr .i64 a1 b2) 2) then(spec_l9State.l1 k2 a1 a0 (wrap64 (a3+1)) l0_0 l0_1) else(some false)) else(none))=some r:=H;have i3:=zqm i2;clear i2
                   by_cases g3:0≤b2
                   ·rw [if_pos g3] at H;have l9:=eq_true g3;have m0:decide (0≤b2)=true:=decide_eq_true g3;clear g3;obtain⟨c2,e0⟩: ∃j_:Int,(shr .i64 a1 b2)=j_:=⟨_,rfl⟩;(replace H:(if(wrap64 ((Int.tmod (b1) 2)+(Int.tmod (b7) 2)))=(Int.tmod (c2) 2) then(spec_l9State.l1 k2 a1 a0 (wrap64 (a3+1)) l0_0 l0_1) else(some false))=some r:=by first|(rw [e0] at H;exact H)|(simp only [e0] at H ⊢;exact H));(try rw [e0] at i3);have k6:(a1 / 2 ^ min b2.toNat 64)=c2:=e0;have hji31z:b2≤64→(a1 / 2 ^ b2.toNat)=c2:=shr_small e0
                    by_cases f0:(wrap64 ((Int.tmod (b1) 2)+(Int.tmod (b7) 2)))=(Int.tmod (c2) 2)
                    ·rw [if_pos f0] at H;have g0:((wrap64 ((Int.tmod (b1) 2)+(Int.tmod (b7) 2)))==(Int.tmod (c2) 2))=true:=beq_iff_eq.mpr f0;(have c32w0:((IntKind.i64.wrap ((Int.tmod (b1) 2)+(Int.tmod (b7) 2)))==(Int.tmod (c2) 2))=true:=by simp only [i64_w];exact g0);have g1:((wrap64 ((Int.tmod (b1) 2)+(Int.tmod (b7) 2))) !=(Int.tmod (c2) 2))=false:=bne_eq_false_iff_eq.mpr f0;(have c32w1:((IntKind.i64.wrap ((Int.tmod (b1) 2)+(Int.tmod (b7) 2))) !=(Int.tmod (c2) 2))=false:=by simp only [i64_w];exact g1);clear f0;have H':=zqm H;clear H;(try go_wp2);replace a4:=zqm (blk_drew a4.out);replace HB:=zqm (below_drew1 HB.out);have c3:0≤(a0:Int):=zqo;have c5:a0<(l0_0.length:Int):=zqo;obtain⟨b9,g4,d7,f1,a5,b3,b4⟩:=at_L3 e1.out a0 c3 c5;have hw996_0:=a5
                     cases f1
                     replace a5:=(HB.out.cell (World.block_lt_of_cell? w _ a5)).trans a5;have b5:=zqm b4;have f9:=zqm b3;clear b4 b3;replace c3:=eq_true c3;replace c5:=eq_true c5;have c7:0≤(a3:Int):=zqo;have c8:a3<(l0_1.length:Int):=zqo;obtain⟨e4,f2,a6⟩:=Kd.at_int e2.out a3 c7 c8;have hw997_0:=a6;obtain rfl:b0=e4:=(by injection f2);replace a6:=(HB.out.cell (World.block_lt_of_cell? w _ a6)).trans a6;replace c7:=eq_true c7;replace c8:=eq_true c8;have d0:0≤((rd l0_1 a3):Int):=zqo;have d1:(rd l0_1 a3)<((rd_L3 l0_0 a0).length:Int):=zqo;obtain⟨d2,f3,a7⟩:=Kd.at_int b5.out (rd l0_1 a3) d0 d1;have hw998_0:=a7
                     cases f3
                     replace a7:=(HB.out.cell (World.block_lt_of_cell? w _ a7)).trans a7;replace d0:=eq_true d0;replace d1:=eq_true d1;refine start_ (n:=33) (S:=fun w'=>w'.cell? ⟨a8,0,none⟩=some (.slice (some b9) l0_0.length c0_0)∧w'.cell? ⟨a8,1,none⟩=some (.slice (some b0) l0_1.length c0_1)∧w'.cell? (b9.add (a0).toNat)=some (.slice (some d2) (rd_L3 l0_0 a0).length d7)∧w'.cell? (b0.add (a3).toNat)=some (.int .i64 (rd l0_1 a3))∧w'.cell? (d2.add ((rd l0_1 a3)).toNat)=some (.int .i64 (rd (rd_L3 l0_0 a0) (rd l0_1 a3)))) (ds:= []) (zqb 33 0) zqk rfl rfl ⟨(blk_cell a4.out 0).trans rfl,(blk_cell a4.out 1).trans rfl,((HB.out.cell (World.block_lt_of_cell? w _ hw996_0)).trans hw996_0),((HB.out.cell (World.block_lt_of_cell? w _ hw997_0)).trans hw997_0),((HB.out.cell (World.block_lt_of_cell? w _ hw998_0)).trans hw998_0)⟩ (fun hHeld=>?_);refine with_tabW spec_l9State.tab11 spec_l9State.bits11 (fun HT_ HW_=>?_);generalize wr.drew=m3 at a4 HB b5 a5 a6 a7 hHeld ⊢;refine pure_ (i:=0) (N:=some 40) (v:=?_) (a':=?_) (zqb 33 1) rfl rfl (any_of HT_.out zqk) (fun _ _ _ h=>h) (Or.inl ⟨by rfl,?_⟩) ?_ ?_;rotate_left
                     ·exact zqt
                     rotate_left
                     ·exact zqs
                     refine pure_ (i:=2) (N:=some 42) (v:=?_) (a':=?_) (zqb 33 5) rfl rfl (any_of HT_.out zqk) (fun _ _ _ h=>h) (Or.inl ⟨by rfl,?_⟩) ?_ ?_;rotate_left
                     ·exact zqt
                     rotate_left
                     ·exact zqs
                     refine pure_ (i:=5) (N:=some 45) (v:=?_) (a':=?_) (zqb 33 37) rfl rfl (any_of HT_.out zqk) (fun _ _ _ h=>h) (Or.inl ⟨by rfl,?_⟩) ?_ ?_;rotate_left
                     ·exact zqt
                     rotate_left
                     ·exact zqs
                     refine pure_ (i:=7) (N:=some 47) (v:=?_) (a':=?_) (zqb 33 165) rfl rfl (any_of HT_.out zqk) (fun _ _ _ h=>h) (Or.inl ⟨by rfl,?_⟩) ?_ ?_;rotate_left
                     ·exact zqt
                     rotate_left
                     ·exact zqs
                     refine take_ (i:=1) (N:=some 41) (v:=?_) (a':=?_) (zqb 33 167) rfl rfl (take_ofW HT_.out HW_.out zqk) (fun _ _ _ h=>h) (Or.inl ⟨by rfl,?_⟩) hHeld ?_ ?_;rotate_left
                     ·rintro w' ⟨s0,s1,s2,s3,s4⟩;go_simp;with_reducible rfl
                     rotate_left
                     ·exact zqs
                     refine pure_ (i:=3) (N:=some 43) (v:=?_) (a':=?_) (zqb 33 175) rfl rfl (any_of HT_.out zqk) (fun _ _ _ h=>h) (Or.inl ⟨by rfl,?_⟩) ?_ ?_;rotate_left
                     ·exact zqt
                     rotate_left
                     ·exact zqs
                     refine take_ (i:=4) (N:=some 44) (v:=?_) (a':=?_) (zqb 33 191) rfl rfl (take_ofW HT_.out HW_.out zqk) (fun _ _ _ h=>h) (Or.inl ⟨by rfl,?_⟩) hHeld ?_ ?_;rotate_left
                     ·rintro w' ⟨s0,s1,s2,s3,s4⟩;go_simp;with_reducible rfl
                     rotate_left
                     ·exact zqs
                     refine take_ (i:=6) (N:=some 46) (v:=?_) (a':=?_) (zqb 33 255) rfl rfl (take_ofW HT_.out HW_.out zqk) (fun _ _ _ h=>h) (Or.inl ⟨by rfl,?_⟩) hHeld ?_ ?_;rotate_left
                     ·rintro w' ⟨s0,s1,s2,s3,s4⟩;go_simp;with_reducible rfl
                     rotate_left
                     ·exact zqs
                     refine pure_ (i:=8) (N:=some 48) (v:=?_) (a':=?_) (zqb 33 511) rfl rfl (any_of HT_.out zqk) (fun _ _ _ h=>h) (Or.inl ⟨by rfl,?_⟩) ?_ ?_;rotate_left
                     ·exact zqt
                     rotate_left
                     ·exact zqs
                     refine take_ (i:=9) (N:=some 49) (v:=?_) (a':=?_) (zqb 33 1023) rfl rfl (take_ofW HT_.out HW_.out zqk) (fun _ _ _ h=>h) (Or.inl ⟨by rfl,?_⟩) hHeld ?_ ?_;rotate_left
                     ·rintro w' ⟨s0,s1,s2,s3,s4⟩;go_simp;with_reducible rfl
                     rotate_left
                     ·exact zqs
                     refine pure_ (i:=10) (N:=some 50) (v:=?_) (a':=?_) (zqb 33 2047) rfl rfl (any_of HT_.out zqk) (fun _ _ _ h=>h) (Or.inl ⟨by rfl,?_⟩) ?_ ?_;rotate_left
                     ·exact zqt
                     rotate_left
                     ·exact zqs
                     refine take_ (i:=11) (N:=some 51) (v:=?_) (a':=?_) (zqb 33 4095) rfl rfl (take_ofW HT_.out HW_.out zqk) (fun _ _ _ h=>h) (Or.inl ⟨by rfl,?_⟩) hHeld ?_ ?_;rotate_left
                     ·rintro w' ⟨s0,s1,s2,s3,s4⟩;go_simp;with_reducible rfl
                     rotate_left
                     ·exact zqs
                     refine pure_ (i:=12) (N:=some 52) (v:=?_) (a':=?_) (zqb 33 8191) rfl rfl (any_of HT_.out zqk) (fun _ _ _ h=>h) (Or.inl ⟨by rfl,?_⟩) ?_ ?_;rotate_left
                     ·exact zqt
                     rotate_left
                     ·exact zqs
                     refine pure_ (i:=13) (N:=some 53) (v:=?_) (a':=?_) (zqb 33 16383) rfl rfl (any_of HT_.out zqk) (fun _ _ _ h=>h) (Or.inl ⟨by rfl,?_⟩) ?_ ?_;rotate_left
                     ·exact zqt
                     rotate_left
                     ·exact zqs
                     refine pure_ (i:=14) (N:=some 54) (v:=?_) (a':=?_) (zqb 33 32767) rfl rfl (any_of HT_.out zqk) (fun _ _ _ h=>h) (Or.inl ⟨by rfl,?_⟩) ?_ ?_;rotate_left
                     ·exact zqt
                     rotate_left
                     ·exact zqs
                     refine pure_ (i:=15) (N:=some 55) (v:=?_) (a':=?_) (zqb 33 65535) rfl rfl (any_of HT_.out zqk) (fun _ _ _ h=>h) (Or.inl ⟨by rfl,?_⟩) ?_ ?_;rotate_left
                     ·exact zqt
                     rotate_left
                     ·exact zqs
                     refine pure_ (i:=16) (N:=some 56) (v:=?_) (a':=?_) (zqb 33 131071) rfl rfl (any_of HT_.out zqk) (fun _ _ _ h=>h) (Or.inl ⟨by rfl,?_⟩) ?_ ?_;rotate_left
                     ·exact zqt
                     rotate_left
                     ·exact zqs
                     refine pure_ (i:=17) (N:=some 57) (v:=?_) (a':=?_) (zqb 33 262143) rfl rfl (any_of HT_.out zqk) (fun _ _ _ h=>h) (Or.inl ⟨by rfl,?_⟩) ?_ ?_;rotate_left
                     ·exact zqt
                     rotate_left
                     ·exact zqs
                     refine pure_ (i:=18) (N:=some 58) (v:=?_) (a':=?_) (zqb 33 524287) rfl rfl (any_of HT_.out zqk) (fun _ _ _ h=>h) (Or.inl ⟨by rfl,?_⟩) ?_ ?_;rotate_left
                     ·exact zqt
                     rotate_left
                     ·exact zqs
                     refine pure_ (i:=19) (N:=some 59) (v:=?_) (a':=?_) (zqb 33 1048575) rfl rfl (any_of HT_.out zqk) (fun _ _ _ h=>h) (Or.inl ⟨by rfl,?_⟩) ?_ ?_;rotate_left
                     ·exact zqt
                     rotate_left
                     ·exact zqs
                     refine pure_ (i:=20) (N:=some 60) (v:=?_) (a':=?_) (zqb 33 2097151) rfl rfl (any_of HT_.out zqk) (fun _ _ _ h=>h) (Or.inl ⟨by rfl,?_⟩) ?_ ?_;rotate_left
                     ·exact zqt
                     rotate_left
                     ·exact zqs
                     refine pure_ (i:=21) (N:=some 61) (v:=?_) (a':=?_) (zqb 33 4194303) rfl rfl (any_of HT_.out zqk) (fun _ _ _ h=>h) (Or.inl ⟨by rfl,?_⟩) ?_ ?_;rotate_left
                     ·exact zqt
                     rotate_left
                     ·exact zqs
                     refine pure_ (i:=22) (N:=some 62) (v:=?_) (a':=?_) (zqb 33 8388607) rfl rfl (any_of HT_.out zqk) (fun _ _ _ h=>h) (Or.inl ⟨by rfl,?_⟩) ?_ ?_;rotate_left
                     ·exact zqt
                     rotate_left
                     ·exact zqs
                     refine pure_ (i:=23) (N:=some 63) (v:=?_) (a':=?_) (zqb 33 16777215) rfl rfl (any_of HT_.out zqk) (fun _ _ _ h=>h) (Or.inl ⟨by rfl,?_⟩) ?_ ?_;rotate_left
                     ·exact zqt
                     rotate_left
                     ·exact zqs
                     refine pure_ (i:=24) (N:=some 64) (v:=?_) (a':=?_) (zqb 33 33554431) rfl rfl (any_of HT_.out zqk) (fun _ _ _ h=>h) (Or.inl ⟨by rfl,?_⟩) ?_ ?_;rotate_left
                     ·exact zqt
                     rotate_left
                     ·exact zqs
                     refine pure_ (i:=26) (N:=some 66) (v:=?_) (a':=?_) (zqb 33 100663295) rfl rfl (any_of HT_.out zqk) (fun _ _ _ h=>h) (Or.inl ⟨by rfl,?_⟩) ?_ ?_;rotate_left
                     ·exact zqt
                     rotate_left
                     ·exact zqs
                     refine pure_ (i:=27) (N:=some 67) (v:=?_) (a':=?_) (zqb 33 234881023) rfl rfl (any_of HT_.out zqk) (fun _ _ _ h=>h) (Or.inl ⟨by rfl,?_⟩) ?_ ?_;rotate_left
                     ·exact zqt
                     rotate_left
                     ·exact zqs
                     refine take_ (i:=25) (N:=some 65) (v:=?_) (a':=?_) (zqb 33 268435455) rfl rfl (take_ofW HT_.out HW_.out zqk) (fun _ _ _ h=>h) (Or.inl ⟨by rfl,?_⟩) hHeld ?_ ?_;rotate_left
                     ·rintro w' ⟨s0,s1,s2,s3,s4⟩;go_simp;with_reducible rfl
                     rotate_left
                     ·exact zqs
                     refine one_ (i:=28) (N:=some 68) (zqb 33 536870911) rfl rfl (one_of HT_.out zqk) (by decide) (fun K hK=>?_);refine goes_ Try.func82 zqk rfl #[.slice (some b9) l0_0.length c0_0,.int .i64 a0,.int .i64 a3] (by rfl) rfl rfl zq1 ?_;(with_reducible refine(spec_l1Join.calls k2 _ _ l0_0 a0 a3 b2 _ ?side1 ?side2 i3.out).mono ?_);(case side1=> exact zq347);(case side2=>exact g8.out);rintro e w' ⟨rfl,⟨nd,rfl⟩⟩;refine⟨_,rfl,?_⟩;refine hK.out _ _ ⟨(blk_cell a4.out 0).trans rfl,(blk_cell a4.out 1).trans rfl,((HB.out.cell (World.block_lt_of_cell? w _ hw996_0)).trans hw996_0),((HB.out.cell (World.block_lt_of_cell? w _ hw997_0)).trans hw997_0),((HB.out.cell (World.block_lt_of_cell? w _ hw998_0)).trans hw998_0)⟩ (fun hHeld=>?_);clear hK K;refine norm_ (a':=?_) ?_ ?_;rotate_left
                     ·show Act.put _ (some 68) _=_;exact zqs
                     refine pure_ (i:=29) (N:=some 69) (v:=?_) (a':=?_) (zqb 33 1073741823) rfl rfl (any_of HT_.out zqk) (fun _ _ _ h=>h) (Or.inl ⟨by rfl,?_⟩) ?_ ?_;rotate_left
                     ·exact zqt
                     rotate_left
                     ·exact zqs
                     refine pure_ (i:=30) (N:=some 70) (v:=?_) (a':=?_) (zqb 33 2147483647) rfl rfl (any_of HT_.out zqk) (fun _ _ _ h=>h) (Or.inl ⟨by rfl,?_⟩) ?_ ?_;rotate_left
                     ·exact zqt
                     rotate_left
                     ·exact zqs
                     refine pure_ (i:=31) (N:=some 71) (v:=?_) (a':=?_) (zqb 33 4294967295) rfl rfl (any_of HT_.out zqk) (fun _ _ _ h=>h) (Or.inl ⟨by rfl,?_⟩) ?_ ?_;rotate_left
                     ·exact zqt
                     rotate_left
                     ·exact zqs
                     refine pure_ (i:=32) (N:=some 72) (v:=?_) (a':=?_) (zqb 33 8589934591) rfl rfl (any_of HT_.out zqk) (fun _ _ _ h=>h) (Or.inl ⟨by rfl,?_⟩) ?_ ?_;rotate_left
                     ·exact zqt
                     rotate_left
                     ·exact zqs
                     refine done_ (done_of HT_.out zqk) ?_;try go_wp2
                     go_roundg k2
                     (case measure=>have:=f4.out;have:=f7.out;omega);case rel=>exact⟨(wrap64 (a3+1)),(by first|rfl|(simp;done)|(simp [*];done)),H',⟨by have:=f4.out;have:=f7.out;omega⟩,⟨zq13⟩,⟨zq91⟩⟩
                    ·rw [if_neg f0] at H;have g0:((wrap64 ((Int.tmod (b1) 2)+(Int.tmod (b7) 2)))==(Int.tmod (c2) 2))=false:=beq_eq_false_iff_ne.mpr f0;(have c32w0:((IntKind.i64.wrap ((Int.tmod (b1) 2)+(Int.tmod (b7) 2)))==(Int.tmod (c2) 2))=false:=by simp only [i64_w];exact g0);have g1:((wrap64 ((Int.tmod (b1) 2)+(Int.tmod (b7) 2))) !=(Int.tmod (c2) 2))=true:=bne_iff_ne.mpr f0;(have c32w1:((IntKind.i64.wrap ((Int.tmod (b1) 2)+(Int.tmod (b7) 2))) !=(Int.tmod (c2) 2))=true:=by simp only [i64_w];exact g1);obtain rfl:=Option.some.inj H;(try go_wp2);replace a4:=zqm (blk_drew a4.out);replace HB:=zqm (below_drew1 HB.out);have c3:0≤(a0:Int):=zqo;have c5:a0<(l0_0.length:Int):=zqo;obtain⟨b9,g4,d7,f1,a5,b3,b4⟩:=at_L3 e1.out a0 c3 c5;have hw996_0:=a5
                     cases f1
                     replace a5:=(HB.out.cell (World.block_lt_of_cell? w _ a5)).trans a5;have b5:=zqm b4;have f9:=zqm b3;clear b4 b3;replace c3:=eq_true c3;replace c5:=eq_true c5;have c7:0≤(a3:Int):=zqo;have c8:a3<(l0_1.length:Int):=zqo;obtain⟨e4,f2,a6⟩:=Kd.at_int e2.out a3 c7 c8;have hw997_0:=a6;obtain rfl:b0=e4:=(by injection f2);replace a6:=(HB.out.cell (World.block_lt_of_cell? w _ a6)).trans a6;replace c7:=eq_true c7;replace c8:=eq_true c8;have d0:0≤((rd l0_1 a3):Int):=zqo;have d1:(rd l0_1 a3)<((rd_L3 l0_0 a0).length:Int):=zqo;obtain⟨d2,f3,a7⟩:=Kd.at_int b5.out (rd l0_1 a3) d0 d1;have hw998_0:=a7
                     cases f3
                     replace a7:=(HB.out.cell (World.block_lt_of_cell? w _ a7)).trans a7;replace d0:=eq_true d0;replace d1:=eq_true d1;refine start_ (n:=33) (S:=fun w'=>w'.cell? ⟨a8,0,none⟩=some (.slice (some b9) l0_0.length c0_0)∧w'.cell? ⟨a8,1,none⟩=some (.slice (some b0) l0_1.length c0_1)∧w'.cell? (b9.add (a0).toNat)=some (.slice (some d2) (rd_L3 l0_0 a0).length d7)∧w'.cell? (b0.add (a3).toNat)=some (.int .i64 (rd l0_1 a3))∧w'.cell? (d2.add ((rd l0_1 a3)).toNat)=some (.int .i64 (rd (rd_L3 l0_0 a0) (rd l0_1 a3)))) (ds:= []) (zqb 33 0) zqk rfl rfl ⟨(blk_cell a4.out 0).trans rfl,(blk_cell a4.out 1).trans rfl,((HB.out.cell (World.block_lt_of_cell? w _ hw996_0)).trans hw996_0),((HB.out.cell (World.block_lt_of_cell? w _ hw997_0)).trans hw997_0),((HB.out.cell (World.block_lt_of_cell? w _ hw998_0)).trans hw998_0)⟩ (fun hHeld=>?_);refine with_tabW spec_l9State.tab11 spec_l9State.bits11 (fun HT_ HW_=>?_);generalize wr.drew=m4 at a4 HB b5 a5 a6 a7 hHeld ⊢;refine pure_ (i:=0) (N:=some 40) (v:=?_) (a':=?_) (zqb 33 1) rfl rfl (any_of HT_.out zqk) (fun _ _ _ h=>h) (Or.inl ⟨by rfl,?_⟩) ?_ ?_;rotate_left
                     ·exact zqt
                     rotate_left
                     ·exact zqs
                     refine pure_ (i:=2) (N:=some 42) (v:=?_) (a':=?_) (zqb 33 5) rfl rfl (any_of HT_.out zqk) (fun _ _ _ h=>h) (Or.inl ⟨by rfl,?_⟩) ?_ ?_;rotate_left
                     ·exact zqt
                     rotate_left
                     ·exact zqs
                     refine pure_ (i:=5) (N:=some 45) (v:=?_) (a':=?_) (zqb 33 37) rfl rfl (any_of HT_.out zqk) (fun _ _ _ h=>h) (Or.inl ⟨by rfl,?_⟩) ?_ ?_;rotate_left
                     ·exact zqt
                     rotate_left
                     ·exact zqs
                     refine pure_ (i:=7) (N:=some 47) (v:=?_) (a':=?_) (zqb 33 165) rfl rfl (any_of HT_.out zqk) (fun _ _ _ h=>h) (Or.inl ⟨by rfl,?_⟩) ?_ ?_;rotate_left
                     ·exact zqt
                     rotate_left
                     ·exact zqs
                     refine take_ (i:=1) (N:=some 41) (v:=?_) (a':=?_) (zqb 33 167) rfl rfl (take_ofW HT_.out HW_.out zqk) (fun _ _ _ h=>h) (Or.inl ⟨by rfl,?_⟩) hHeld ?_ ?_;rotate_left
                     ·rintro w' ⟨s0,s1,s2,s3,s4⟩;go_simp;with_reducible rfl
                     rotate_left
                     ·exact zqs
                     refine pure_ (i:=3) (N:=some 43) (v:=?_) (a':=?_) (zqb 33 175) rfl rfl (any_of HT_.out zqk) (fun _ _ _ h=>h) (Or.inl ⟨by rfl,?_⟩) ?_ ?_;rotate_left
                     ·exact zqt
                     rotate_left
                     ·exact zqs
                     refine take_ (i:=4) (N:=some 44) (v:=?_) (a':=?_) (zqb 33 191) rfl rfl (take_ofW HT_.out HW_.out zqk) (fun _ _ _ h=>h) (Or.inl ⟨by rfl,?_⟩) hHeld ?_ ?_;rotate_left
                     ·rintro w' ⟨s0,s1,s2,s3,s4⟩;go_simp;with_reducible rfl
                     rotate_left
                     ·exact zqs
                     refine take_ (i:=6) (N:=some 46) (v:=?_) (a':=?_) (zqb 33 255) rfl rfl (take_ofW HT_.out HW_.out zqk) (fun _ _ _ h=>h) (Or.inl ⟨by rfl,?_⟩) hHeld ?_ ?_;rotate_left
                     ·rintro w' ⟨s0,s1,s2,s3,s4⟩;go_simp;with_reducible rfl
                     rotate_left
                     ·exact zqs
                     refine pure_ (i:=8) (N:=some 48) (v:=?_) (a':=?_) (zqb 33 511) rfl rfl (any_of HT_.out zqk) (fun _ _ _ h=>h) (Or.inl ⟨by rfl,?_⟩) ?_ ?_;rotate_left
                     ·exact zqt
                     rotate_left
                     ·exact zqs
                     refine take_ (i:=9) (N:=some 49) (v:=?_) (a':=?_) (zqb 33 1023) rfl rfl (take_ofW HT_.out HW_.out zqk) (fun _ _ _ h=>h) (Or.inl ⟨by rfl,?_⟩) hHeld ?_ ?_;rotate_left
                     ·rintro w' ⟨s0,s1,s2,s3,s4⟩;go_simp;with_reducible rfl
                     rotate_left
                     ·exact zqs
                     refine pure_ (i:=10) (N:=some 50) (v:=?_) (a':=?_) (zqb 33 2047) rfl rfl (any_of HT_.out zqk) (fun _ _ _ h=>h) (Or.inl ⟨by rfl,?_⟩) ?_ ?_;rotate_left
                     ·exact zqt
                     rotate_left
                     ·exact zqs
                     refine take_ (i:=11) (N:=some 51) (v:=?_) (a':=?_) (zqb 33 4095) rfl rfl (take_ofW HT_.out HW_.out zqk) (fun _ _ _ h=>h) (Or.inl ⟨by rfl,?_⟩) hHeld ?_ ?_;rotate_left
                     ·rintro w' ⟨s0,s1,s2,s3,s4⟩;go_simp;with_reducible rfl
                     rotate_left
                     ·exact zqs
                     refine pure_ (i:=12) (N:=some 52) (v:=?_) (a':=?_) (zqb 33 8191) rfl rfl (any_of HT_.out zqk) (fun _ _ _ h=>h) (Or.inl ⟨by rfl,?_⟩) ?_ ?_;rotate_left
                     ·exact zqt
                     rotate_left
                     ·exact zqs
                     refine pure_ (i:=13) (N:=some 53) (v:=?_) (a':=?_) (zqb 33 16383) rfl rfl (any_of HT_.out zqk) (fun _ _ _ h=>h) (Or.inl ⟨by rfl,?_⟩) ?_ ?_;rotate_left
                     ·exact zqt
                     rotate_left
                     ·exact zqs
                     refine pure_ (i:=14) (N:=some 54) (v:=?_) (a':=?_) (zqb 33 32767) rfl rfl (any_of HT_.out zqk) (fun _ _ _ h=>h) (Or.inl ⟨by rfl,?_⟩) ?_ ?_;rotate_left
                     ·exact zqt
                     rotate_left
                     ·exact zqs
                     refine pure_ (i:=15) (N:=some 55) (v:=?_) (a':=?_) (zqb 33 65535) rfl rfl (any_of HT_.out zqk) (fun _ _ _ h=>h) (Or.inl ⟨by rfl,?_⟩) ?_ ?_;rotate_left
                     ·exact zqt
                     rotate_left
                     ·exact zqs
                     refine pure_ (i:=16) (N:=some 56) (v:=?_) (a':=?_) (zqb 33 131071) rfl rfl (any_of HT_.out zqk) (fun _ _ _ h=>h) (Or.inl ⟨by rfl,?_⟩) ?_ ?_;rotate_left
                     ·exact zqt
                     rotate_left
                     ·exact zqs
                     refine pure_ (i:=17) (N:=some 57) (v:=?_) (a':=?_) (zqb 33 262143) rfl rfl (any_of HT_.out zqk) (fun _ _ _ h=>h) (Or.inl ⟨by rfl,?_⟩) ?_ ?_;rotate_left
                     ·exact zqt
                     rotate_left
                     ·exact zqs
                     refine pure_ (i:=18) (N:=some 58) (v:=?_) (a':=?_) (zqb 33 524287) rfl rfl (any_of HT_.out zqk) (fun _ _ _ h=>h) (Or.inl ⟨by rfl,?_⟩) ?_ ?_;rotate_left
                     ·exact zqt
                     rotate_left
                     ·exact zqs
                     refine pure_ (i:=19) (N:=some 59) (v:=?_) (a':=?_) (zqb 33 1048575) rfl rfl (any_of HT_.out zqk) (fun _ _ _ h=>h) (Or.inl ⟨by rfl,?_⟩) ?_ ?_;rotate_left
                     ·exact zqt
                     rotate_left
                     ·exact zqs
                     refine pure_ (i:=20) (N:=some 60) (v:=?_) (a':=?_) (zqb 33 2097151) rfl rfl (any_of HT_.out zqk) (fun _ _ _ h=>h) (Or.inl ⟨by rfl,?_⟩) ?_ ?_;rotate_left
                     ·exact zqt
                     rotate_left
                     ·exact zqs
                     refine pure_ (i:=21) (N:=some 61) (v:=?_) (a':=?_) (zqb 33 4194303) rfl rfl (any_of HT_.out zqk) (fun _ _ _ h=>h) (Or.inl ⟨by rfl,?_⟩) ?_ ?_;rotate_left
                     ·exact zqt
                     rotate_left
                     ·exact zqs
                     refine pure_ (i:=22) (N:=some 62) (v:=?_) (a':=?_) (zqb 33 8388607) rfl rfl (any_of HT_.out zqk) (fun _ _ _ h=>h) (Or.inl ⟨by rfl,?_⟩) ?_ ?_;rotate_left
                     ·exact zqt
                     rotate_left
                     ·exact zqs
                     refine pure_ (i:=23) (N:=some 63) (v:=?_) (a':=?_) (zqb 33 16777215) rfl rfl (any_of HT_.out zqk) (fun _ _ _ h=>h) (Or.inl ⟨by rfl,?_⟩) ?_ ?_;rotate_left
                     ·exact zqt
                     rotate_left
                     ·exact zqs
                     refine pure_ (i:=24) (N:=some 64) (v:=?_) (a':=?_) (zqb 33 33554431) rfl rfl (any_of HT_.out zqk) (fun _ _ _ h=>h) (Or.inl ⟨by rfl,?_⟩) ?_ ?_;rotate_left
                     ·exact zqt
                     rotate_left
                     ·exact zqs
                     refine pure_ (i:=26) (N:=some 66) (v:=?_) (a':=?_) (zqb 33 100663295) rfl rfl (any_of HT_.out zqk) (fun _ _ _ h=>h) (Or.inl ⟨by rfl,?_⟩) ?_ ?_;rotate_left
                     ·exact zqt
                     rotate_left
                     ·exact zqs
                     refine pure_ (i:=27) (N:=some 67) (v:=?_) (a':=?_) (zqb 33 234881023) rfl rfl (any_of HT_.out zqk) (fun _ _ _ h=>h) (Or.inl ⟨by rfl,?_⟩) ?_ ?_;rotate_left
                     ·exact zqt
                     rotate_left
                     ·exact zqs
                     refine take_ (i:=25) (N:=some 65) (v:=?_) (a':=?_) (zqb 33 268435455) rfl rfl (take_ofW HT_.out HW_.out zqk) (fun _ _ _ h=>h) (Or.inl ⟨by rfl,?_⟩) hHeld ?_ ?_;rotate_left
                     ·rintro w' ⟨s0,s1,s2,s3,s4⟩;go_simp;with_reducible rfl
                     rotate_left
                     ·exact zqs
                     refine one_ (i:=28) (N:=some 68) (zqb 33 536870911) rfl rfl (one_of HT_.out zqk) (by decide) (fun K hK=>?_);refine goes_ Try.func82 zqk rfl #[.slice (some b9) l0_0.length c0_0,.int .i64 a0,.int .i64 a3] (by rfl) rfl rfl zq1 ?_;(with_reducible refine(spec_l1Join.calls k2 _ _ l0_0 a0 a3 b2 _ ?side1 ?side2 i3.out).mono ?_);(case side1=> exact zq347);(case side2=>exact g8.out);rintro e w' ⟨rfl,⟨nd,rfl⟩⟩;refine⟨_,rfl,?_⟩;refine hK.out _ _ ⟨(blk_cell a4.out 0).trans rfl,(blk_cell a4.out 1).trans rfl,((HB.out.cell (World.block_lt_of_cell? w _ hw996_0)).trans hw996_0),((HB.out.cell (World.block_lt_of_cell? w _ hw997_0)).trans hw997_0),((HB.out.cell (World.block_lt_of_cell? w _ hw998_0)).trans hw998_0)⟩ (fun hHeld=>?_);clear hK K;refine norm_ (a':=?_) ?_ ?_;rotate_left
                     ·show Act.put _ (some 68) _=_;exact zqs
                     refine pure_ (i:=29) (N:=some 69) (v:=?_) (a':=?_) (zqb 33 1073741823) rfl rfl (any_of HT_.out zqk) (fun _ _ _ h=>h) (Or.inl ⟨by rfl,?_⟩) ?_ ?_;rotate_left
                     ·exact zqt
                     rotate_left
                     ·exact zqs
                     refine pure_ (i:=30) (N:=some 70) (v:=?_) (a':=?_) (zqb 33 2147483647) rfl rfl (any_of HT_.out zqk) (fun _ _ _ h=>h) (Or.inl ⟨by rfl,?_⟩) ?_ ?_;rotate_left
                     ·exact zqt
                     rotate_left
                     ·exact zqs
                     refine pure_ (i:=31) (N:=some 71) (v:=?_) (a':=?_) (zqb 33 4294967295) rfl rfl (any_of HT_.out zqk) (fun _ _ _ h=>h) (Or.inl ⟨by rfl,?_⟩) ?_ ?_;rotate_left
                     ·exact zqt
                     rotate_left
                     ·exact zqs
                     refine pure_ (i:=32) (N:=some 72) (v:=?_) (a':=?_) (zqb 33 8589934591) rfl rfl (any_of HT_.out zqk) (fun _ _ _ h=>h) (Or.inl ⟨by rfl,?_⟩) ?_ ?_;rotate_left
                     ·exact zqt
                     rotate_left
                     ·exact zqs
                     refine done_ (done_of HT_.out zqk) ?_;try go_wp2
                     go_ret
                     exact⟨by first|rfl|(simp [errW_none,errW_some] <;> rfl)|(simp only [← d4,← d3,← d8,← d9,← e3,← e0];first|rfl|(simp [errW_none,errW_some] <;> rfl))|(simp [*,errW_none,errW_some] <;> rfl),zq91⟩
                   ·rw [if_neg g3] at H;exact absurd H (by simp)
                  ·rw [if_neg e9] at H;have j0:((rd (rd_L3 l0_0 a0) (rd l0_1 a3))==1)=false:=beq_eq_false_iff_ne.mpr e9;have j1:((rd (rd_L3 l0_0 a0) (rd l0_1 a3)) !=1)=true:=bne_iff_ne.mpr e9;have H':=zqm H;clear H;(try go_wp2);replace a4:=zqm (blk_drew a4.out);replace HB:=zqm (below_drew1 HB.out);have c3:0≤(a0:Int):=zqo;have c5:a0<(l0_0.length:Int):=zqo;obtain⟨b9,g4,d7,f1,a5,b3,b4⟩:=at_L3 e1.out a0 c3 c5;have hw996_0:=a5
                   cases f1
                   replace a5:=(HB.out.cell (World.block_lt_of_cell? w _ a5)).trans a5;have b5:=zqm b4;have f9:=zqm b3;clear b4 b3;replace c3:=eq_true c3;replace c5:=eq_true c5;have c7:0≤(a3:Int):=zqo;have c8:a3<(l0_1.length:Int):=zqo;obtain⟨e4,f2,a6⟩:=Kd.at_int e2.out a3 c7 c8;have hw997_0:=a6;obtain rfl:b0=e4:=(by injection f2);replace a6:=(HB.out.cell (World.block_lt_of_cell? w _ a6)).trans a6;replace c7:=eq_true c7;replace c8:=eq_true c8;have d0:0≤((rd l0_1 a3):Int):=zqo;have d1:(rd l0_1 a3)<((rd_L3 l0_0 a0).length:Int):=zqo;obtain⟨d2,f3,a7⟩:=Kd.at_int b5.out (rd l0_1 a3) d0 d1;have hw998_0:=a7
                   cases f3
                   replace a7:=(HB.out.cell (World.block_lt_of_cell? w _ a7)).trans a7;replace d0:=eq_true d0;replace d1:=eq_true d1;refine start_ (n:=33) (S:=fun w'=>w'.cell? ⟨a8,0,none⟩=some (.slice (some b9) l0_0.length c0_0)∧w'.cell? ⟨a8,1,none⟩=some (.slice (some b0) l0_1.length c0_1)∧w'.cell? (b9.add (a0).toNat)=some (.slice (some d2) (rd_L3 l0_0 a0).length d7)∧w'.cell? (b0.add (a3).toNat)=some (.int .i64 (rd l0_1 a3))∧w'.cell? (d2.add ((rd l0_1 a3)).toNat)=some (.int .i64 (rd (rd_L3 l0_0 a0) (rd l0_1 a3)))) (ds:= []) (zqb 33 0) zqk rfl rfl ⟨(blk_cell a4.out 0).trans rfl,(blk_cell a4.out 1).trans rfl,((HB.out.cell (World.block_lt_of_cell? w _ hw996_0)).trans hw996_0),((HB.out.cell (World.block_lt_of_cell? w _ hw997_0)).trans hw997_0),((HB.out.cell (World.block_lt_of_cell? w _ hw998_0)).trans hw998_0)⟩ (fun hHeld=>?_);refine with_tabW spec_l9State.tab11 spec_l9State.bits11 (fun HT_ HW_=>?_);generalize wr.drew=m5 at a4 HB b5 a5 a6 a7 hHeld ⊢;refine pure_ (i:=0) (N:=some 40) (v:=?_) (a':=?_) (zqb 33 1) rfl rfl (any_of HT_.out zqk) (fun _ _ _ h=>h) (Or.inl ⟨by rfl,?_⟩) ?_ ?_;rotate_left
                   ·exact zqt
                   rotate_left
                   ·exact zqs
                   refine pure_ (i:=2) (N:=some 42) (v:=?_) (a':=?_) (zqb 33 5) rfl rfl (any_of HT_.out zqk) (fun _ _ _ h=>h) (Or.inl ⟨by rfl,?_⟩) ?_ ?_;rotate_left
                   ·exact zqt
                   rotate_left
                   ·exact zqs
                   refine pure_ (i:=5) (N:=some 45) (v:=?_) (a':=?_) (zqb 33 37) rfl rfl (any_of HT_.out zqk) (fun _ _ _ h=>h) (Or.inl ⟨by rfl,?_⟩) ?_ ?_;rotate_left
                   ·exact zqt
                   rotate_left
                   ·exact zqs
                   refine pure_ (i:=7) (N:=some 47) (v:=?_) (a':=?_) (zqb 33 165) rfl rfl (any_of HT_.out zqk) (fun _ _ _ h=>h) (Or.inl ⟨by rfl,?_⟩) ?_ ?_;rotate_left
                   ·exact zqt
                   rotate_left
                   ·exact zqs
                   refine take_ (i:=1) (N:=some 41) (v:=?_) (a':=?_) (zqb 33 167) rfl rfl (take_ofW HT_.out HW_.out zqk) (fun _ _ _ h=>h) (Or.inl ⟨by rfl,?_⟩) hHeld ?_ ?_;rotate_left
                   ·rintro w' ⟨s0,s1,s2,s3,s4⟩;go_simp;with_reducible rfl
                   rotate_left
                   ·exact zqs
                   refine pure_ (i:=3) (N:=some 43) (v:=?_) (a':=?_) (zqb 33 175) rfl rfl (any_of HT_.out zqk) (fun _ _ _ h=>h) (Or.inl ⟨by rfl,?_⟩) ?_ ?_;rotate_left
                   ·exact zqt
                   rotate_left
                   ·exact zqs
                   refine take_ (i:=4) (N:=some 44) (v:=?_) (a':=?_) (zqb 33 191) rfl rfl (take_ofW HT_.out HW_.out zqk) (fun _ _ _ h=>h) (Or.inl ⟨by rfl,?_⟩) hHeld ?_ ?_;rotate_left
                   ·rintro w' ⟨s0,s1,s2,s3,s4⟩;go_simp;with_reducible rfl
                   rotate_left
                   ·exact zqs
                   refine take_ (i:=6) (N:=some 46) (v:=?_) (a':=?_) (zqb 33 255) rfl rfl (take_ofW HT_.out HW_.out zqk) (fun _ _ _ h=>h) (Or.inl ⟨by rfl,?_⟩) hHeld ?_ ?_;rotate_left
                   ·rintro w' ⟨s0,s1,s2,s3,s4⟩;go_simp;with_reducible rfl
                   rotate_left
                   ·exact zqs
                   refine pure_ (i:=8) (N:=some 48) (v:=?_) (a':=?_) (zqb 33 511) rfl rfl (any_of HT_.out zqk) (fun _ _ _ h=>h) (Or.inl ⟨by rfl,?_⟩) ?_ ?_;rotate_left
                   ·exact zqt
                   rotate_left
                   ·exact zqs
                   refine take_ (i:=9) (N:=some 49) (v:=?_) (a':=?_) (zqb 33 1023) rfl rfl (take_ofW HT_.out HW_.out zqk) (fun _ _ _ h=>h) (Or.inl ⟨by rfl,?_⟩) hHeld ?_ ?_;rotate_left
                   ·rintro w' ⟨s0,s1,s2,s3,s4⟩;go_simp;with_reducible rfl
                   rotate_left
                   ·exact zqs
                   refine pure_ (i:=10) (N:=some 50) (v:=?_) (a':=?_) (zqb 33 2047) rfl rfl (any_of HT_.out zqk) (fun _ _ _ h=>h) (Or.inl ⟨by rfl,?_⟩) ?_ ?_;rotate_left
                   ·exact zqt
                   rotate_left
                   ·exact zqs
                   refine take_ (i:=11) (N:=some 51) (v:=?_) (a':=?_) (zqb 33 4095) rfl rfl (take_ofW HT_.out HW_.out zqk) (fun _ _ _ h=>h) (Or.inl ⟨by rfl,?_⟩) hHeld ?_ ?_;rotate_left
                   ·rintro w' ⟨s0,s1,s2,s3,s4⟩;go_simp;with_reducible rfl
                   rotate_left
                   ·exact zqs
                   refine pure_ (i:=12) (N:=some 52) (v:=?_) (a':=?_) (zqb 33 8191) rfl rfl (any_of HT_.out zqk) (fun _ _ _ h=>h) (Or.inl ⟨by rfl,?_⟩) ?_ ?_;rotate_left
                   ·exact zqt
                   rotate_left
                   ·exact zqs
                   refine pure_ (i:=13) (N:=some 53) (v:=?_) (a':=?_) (zqb 33 16383) rfl rfl (any_of HT_.out zqk) (fun _ _ _ h=>h) (Or.inl ⟨by rfl,?_⟩) ?_ ?_;rotate_left
                   ·exact zqt
                   rotate_left
                   ·exact zqs
                   refine pure_ (i:=14) (N:=some 54) (v:=undef) (a':=?_) (zqb 33 32767) rfl rfl (any_of HT_.out zqk) (fun _ _ _ h=>h) (Or.inr ⟨by rfl,rfl⟩) ?_ ?_;rotate_left
                   ·exact zqs
                   refine pure_ (i:=15) (N:=some 55) (v:=undef) (a':=?_) (zqb 33 65535) rfl rfl (any_of HT_.out zqk) (fun _ _ _ h=>h) (Or.inr ⟨by rfl,rfl⟩) ?_ ?_;rotate_left
                   ·exact zqs
                   refine pure_ (i:=16) (N:=some 56) (v:=undef) (a':=?_) (zqb 33 131071) rfl rfl (any_of HT_.out zqk) (fun _ _ _ h=>h) (Or.inr ⟨by rfl,rfl⟩) ?_ ?_;rotate_left
                   ·exact zqs
                   refine pure_ (i:=17) (N:=some 57) (v:=undef) (a':=?_) (zqb 33 262143) rfl rfl (any_of HT_.out zqk) (fun _ _ _ h=>h) (Or.inr ⟨by rfl,rfl⟩) ?_ ?_;rotate_left
                   ·exact zqs
                   refine pure_ (i:=18) (N:=some 58) (v:=undef) (a':=?_) (zqb 33 524287) rfl rfl (any_of HT_.out zqk) (fun _ _ _ h=>h) (Or.inr ⟨by rfl,rfl⟩) ?_ ?_;rotate_left
                   ·exact zqs
                   refine pure_ (i:=19) (N:=some 59) (v:=undef) (a':=?_) (zqb 33 1048575) rfl rfl (any_of HT_.out zqk) (fun _ _ _ h=>h) (Or.inr ⟨by rfl,rfl⟩) ?_ ?_;rotate_left
                   ·exact zqs
                   refine pure_ (i:=20) (N:=some 60) (v:=undef) (a':=?_) (zqb 33 2097151) rfl rfl (any_of HT_.out zqk) (fun _ _ _ h=>h) (Or.inr ⟨by rfl,rfl⟩) ?_ ?_;rotate_left
                   ·exact zqs
                   refine pure_ (i:=21) (N:=some 61) (v:=undef) (a':=?_) (zqb 33 4194303) rfl rfl (any_of HT_.out zqk) (fun _ _ _ h=>h) (Or.inr ⟨by rfl,rfl⟩) ?_ ?_;rotate_left
                   ·exact zqs
                   refine pure_ (i:=22) (N:=some 62) (v:=undef) (a':=?_) (zqb 33 8388607) rfl rfl (any_of HT_.out zqk) (fun _ _ _ h=>h) (Or.inr ⟨by rfl,rfl⟩) ?_ ?_;rotate_left
                   ·exact zqs
                   refine pure_ (i:=23) (N:=some 63) (v:=undef) (a':=?_) (zqb 33 16777215) rfl rfl (any_of HT_.out zqk) (fun _ _ _ h=>h) (Or.inr ⟨by rfl,rfl⟩) ?_ ?_;rotate_left
                   ·exact zqs
                   refine pure_ (i:=24) (N:=some 64) (v:=undef) (a':=?_) (zqb 33 33554431) rfl rfl (any_of HT_.out zqk) (fun _ _ _ h=>h) (Or.inr ⟨by rfl,rfl⟩) ?_ ?_;rotate_left
                   ·exact zqs
                   refine pure_ (i:=25) (N:=some 65) (v:=undef) (a':=?_) (zqb 33 67108863) rfl rfl (any_of HT_.out zqk) (fun _ _ _ h=>h) (Or.inr ⟨by rfl,rfl⟩) ?_ ?_;rotate_left
                   ·exact zqs
                   refine pure_ (i:=26) (N:=some 66) (v:=undef) (a':=?_) (zqb 33 134217727) rfl rfl (any_of HT_.out zqk) (fun _ _ _ h=>h) (Or.inr ⟨by rfl,rfl⟩) ?_ ?_;rotate_left
                   ·exact zqs
                   refine pure_ (i:=27) (N:=some 67) (v:=undef) (a':=?_) (zqb 33 268435455) rfl rfl (any_of HT_.out zqk) (fun _ _ _ h=>h) (Or.inr ⟨by rfl,rfl⟩) ?_ ?_;rotate_left
                   ·exact zqs
                   refine pure_ (i:=28) (N:=some 68) (v:=undef) (a':=?_) (zqb 33 536870911) rfl rfl (any_of HT_.out zqk) (fun _ _ _ h=>h) (Or.inr ⟨by rfl,rfl⟩) ?_ ?_;rotate_left
                   ·exact zqs
                   refine pure_ (i:=29) (N:=some 69) (v:=undef) (a':=?_) (zqb 33 1073741823) rfl rfl (any_of HT_.out zqk) (fun _ _ _ h=>h) (Or.inr ⟨by rfl,rfl⟩) ?_ ?_;rotate_left
                   ·exact zqs
                   refine pure_ (i:=30) (N:=some 70) (v:=undef) (a':=?_) (zqb 33 2147483647) rfl rfl (any_of HT_.out zqk) (fun _ _ _ h=>h) (Or.inr ⟨by rfl,rfl⟩) ?_ ?_;rotate_left
                   ·exact zqs
                   refine pure_ (i:=31) (N:=some 71) (v:=undef) (a':=?_) (zqb 33 4294967295) rfl rfl (any_of HT_.out zqk) (fun _ _ _ h=>h) (Or.inr ⟨by rfl,rfl⟩) ?_ ?_;rotate_left
                   ·exact zqs
                   refine pure_ (i:=32) (N:=some 72) (v:=?_) (a':=?_) (zqb 33 8589934591) rfl rfl (any_of HT_.out zqk) (fun _ _ _ h=>h) (Or.inl ⟨by rfl,?_⟩) ?_ ?_;rotate_left
                   ·exact zqt
                   rotate_left
                   ·exact zqs
                   refine done_ (done_of HT_.out zqk) ?_;try go_wp2
                   go_roundg k2
                   (case measure=>have:=f4.out;have:=f7.out;omega);case rel=>exact⟨(wrap64 (a3+1)),(by first|rfl|(simp;done)|(simp [*];done)),H',⟨by have:=f4.out;have:=f7.out;omega⟩,⟨zq13⟩,⟨zq91⟩⟩
                 ·rw [if_neg h4] at H;exact absurd H (by simp)
                ·rw [if_neg h3] at H;exact absurd H (by simp)
               ·rw [if_neg h2] at H;exact absurd H (by simp)
              ·rw [if_neg h1] at H;exact absurd H (by simp)
             ·rw [if_neg h0] at H;exact absurd H (by simp)
            ·rw [if_neg g9] at H;exact absurd H (by simp)
           ·rw [if_neg f8] at H;have i9:decide (a3<a0)=false:=decide_eq_false f8;clear f8;have H':=zqm H;clear H
            go_wp2
            go_roundg k2
            (case measure=>have:=f4.out;have:=f7.out;omega);case rel=>exact⟨(wrap64 (a0+1)),(by first|rfl|(simp;done)|(simp [*];done)),H',⟨by have:=f4.out;have:=f7.out;omega⟩,⟨zq13⟩,⟨zq91⟩⟩
        ·rw [if_neg e6] at H;have e7:((wrap64 ((Int.tmod (b6) 2)+(Int.tmod (c0) 2)))==1)=false:=beq_eq_false_iff_ne.mpr e6;(have c14w0:((IntKind.i64.wrap ((Int.tmod (b6) 2)+(Int.tmod (c0) 2)))==1)=false:=by simp only [i64_w];exact e7);have e8:((wrap64 ((Int.tmod (b6) 2)+(Int.tmod (c0) 2))) !=1)=true:=bne_iff_ne.mpr e6;(have c14w1:((IntKind.i64.wrap ((Int.tmod (b6) 2)+(Int.tmod (c0) 2))) !=1)=true:=by simp only [i64_w];exact e8);obtain rfl:=Option.some.inj H;have j2:wr.cell? ⟨a8,0,none⟩=some (.slice A0_0 l0_0.length c0_0):=(blk_cell a4.out 0).trans rfl;have j3:wr.cell? ⟨a8,1,none⟩=some (.slice A0_1 l0_1.length c0_1):=(blk_cell a4.out 1).trans rfl;have j4:=blk_frozen a4.out 0;have j5:=blk_frozen a4.out 1;(try go_wp2);replace a4:=zqm (blk_drew a4.out);replace HB:=zqm (below_drew1 HB.out);have d5:0≤(a0:Int):=zqo;have d6:a0<(l0_1.length:Int):=zqo;obtain⟨b0,g7,a9⟩:=Kd.at_int e2.out a0 d5 d6;have hw995_0:=a9
         cases g7
         replace a9:=(HB.out.cell (World.block_lt_of_cell? w _ a9)).trans a9;replace d5:=eq_true d5;replace d6:=eq_true d6;refine start_ (n:=14) (S:=fun w'=>w'.cell? ⟨a8,0,none⟩=some (.slice A0_0 l0_0.length c0_0)∧w'.cell? ⟨a8,1,none⟩=some (.slice (some b0) l0_1.length c0_1)∧w'.cell? (b0.add (a0).toNat)=some (.int .i64 (rd l0_1 a0))) (ds:= []) (zqb 14 0) zqk rfl rfl ⟨(blk_cell a4.out 0).trans rfl,(blk_cell a4.out 1).trans rfl,((HB.out.cell (World.block_lt_of_cell? w _ hw995_0)).trans hw995_0)⟩ (fun hHeld=>?_);refine with_tabW spec_l9State.tab6 spec_l9State.bits6 (fun HT_ HW_=>?_);generalize wr.drew=m6 at a4 HB a9 hHeld ⊢;refine pure_ (i:=0) (N:=some 21) (v:=?_) (a':=?_) (zqb 14 1) rfl rfl (any_of HT_.out zqk) (fun _ _ _ h=>h) (Or.inl ⟨by rfl,?_⟩) ?_ ?_;rotate_left
         ·exact zqt
         rotate_left
         ·exact zqs
         refine pure_ (i:=1) (N:=some 22) (v:=?_) (a':=?_) (zqb 14 3) rfl rfl (any_of HT_.out zqk) (fun _ _ _ h=>h) (Or.inl ⟨by rfl,?_⟩) ?_ ?_;rotate_left
         ·exact zqt
         rotate_left
         ·exact zqs
         refine pure_ (i:=2) (N:=some 23) (v:=?_) (a':=?_) (zqb 14 7) rfl rfl (any_of HT_.out zqk) (fun _ _ _ h=>h) (Or.inl ⟨by rfl,?_⟩) ?_ ?_;rotate_left
         ·exact zqt
         rotate_left
         ·exact zqs
         refine pure_ (i:=3) (N:=some 24) (v:=?_) (a':=?_) (zqb 14 15) rfl rfl (any_of HT_.out zqk) (fun _ _ _ h=>h) (Or.inl ⟨by rfl,?_⟩) ?_ ?_;rotate_left
         ·exact zqt
         rotate_left
         ·exact zqs
         refine pure_ (i:=4) (N:=some 25) (v:=?_) (a':=?_) (zqb 14 31) rfl rfl (any_of HT_.out zqk) (fun _ _ _ h=>h) (Or.inl ⟨by rfl,?_⟩) ?_ ?_;rotate_left
         ·exact zqt
         rotate_left
         ·exact zqs
         refine pure_ (i:=5) (N:=some 26) (v:=?_) (a':=?_) (zqb 14 63) rfl rfl (any_of HT_.out zqk) (fun _ _ _ h=>h) (Or.inl ⟨by rfl,?_⟩) ?_ ?_;rotate_left
         ·exact zqt
         rotate_left
         ·exact zqs
         refine pure_ (i:=7) (N:=some 28) (v:=?_) (a':=?_) (zqb 14 191) rfl rfl (any_of HT_.out zqk) (fun _ _ _ h=>h) (Or.inl ⟨by rfl,?_⟩) ?_ ?_;rotate_left
         ·exact zqt
         rotate_left
         ·exact zqs
         refine take_ (i:=6) (N:=some 27) (v:=?_) (a':=?_) (zqb 14 255) rfl rfl (take_ofW HT_.out HW_.out zqk) (fun _ _ _ h=>h) (Or.inl ⟨by rfl,?_⟩) hHeld ?_ ?_;rotate_left
         ·rintro w' ⟨s0,s1,s2⟩;go_simp;with_reducible rfl
         rotate_left
         ·exact zqs
         refine pure_ (i:=8) (N:=some 29) (v:=?_) (a':=?_) (zqb 14 511) rfl rfl (any_of HT_.out zqk) (fun _ _ _ h=>h) (Or.inl ⟨by rfl,?_⟩) ?_ ?_;rotate_left
         ·exact zqt
         rotate_left
         ·exact zqs
         refine take_ (i:=9) (N:=some 30) (v:=?_) (a':=?_) (zqb 14 1023) rfl rfl (take_ofW HT_.out HW_.out zqk) (fun _ _ _ h=>h) (Or.inl ⟨by rfl,?_⟩) hHeld ?_ ?_;rotate_left
         ·rintro w' ⟨s0,s1,s2⟩;go_simp;with_reducible rfl
         rotate_left
         ·exact zqs
         refine pure_ (i:=10) (N:=some 31) (v:=?_) (a':=?_) (zqb 14 2047) rfl rfl (any_of HT_.out zqk) (fun _ _ _ h=>h) (Or.inl ⟨by rfl,?_⟩) ?_ ?_;rotate_left
         ·exact zqt
         rotate_left
         ·exact zqs
         refine pure_ (i:=11) (N:=some 32) (v:=?_) (a':=?_) (zqb 14 4095) rfl rfl (any_of HT_.out zqk) (fun _ _ _ h=>h) (Or.inl ⟨by rfl,?_⟩) ?_ ?_;rotate_left
         ·exact zqt
         rotate_left
         ·exact zqs
         refine pure_ (i:=12) (N:=some 33) (v:=?_) (a':=?_) (zqb 14 8191) rfl rfl (any_of HT_.out zqk) (fun _ _ _ h=>h) (Or.inl ⟨by rfl,?_⟩) ?_ ?_;rotate_left
         ·exact zqt
         rotate_left
         ·exact zqs
         refine pure_ (i:=13) (N:=some 34) (v:=?_) (a':=?_) (zqb 14 16383) rfl rfl (any_of HT_.out zqk) (fun _ _ _ h=>h) (Or.inl ⟨by rfl,?_⟩) ?_ ?_;rotate_left
         ·exact zqt
         rotate_left
         ·exact zqs
         refine done_ (done_of HT_.out zqk) ?_;try go_wp2
         go_ret
         exact⟨by first|rfl|(simp [errW_none,errW_some] <;> rfl)|(simp only [← d4,← d3,← d8];first|rfl|(simp [errW_none,errW_some] <;> rfl))|(simp [*,errW_none,errW_some] <;> rfl),zq91⟩
       ·rw [if_neg f6] at H;exact absurd H (by simp)
      ·rw [if_neg f5] at H;exact absurd H (by simp)
     ·rw [if_neg c9] at H;have i1:decide (a0<(l0_1.length:Int))=false:=decide_eq_false c9;clear c9;obtain rfl:=Option.some.inj H;have j6:wr.cell? ⟨a8,0,none⟩=some (.slice A0_0 l0_0.length c0_0):=(blk_cell a4.out 0).trans rfl;have j7:wr.cell? ⟨a8,1,none⟩=some (.slice A0_1 l0_1.length c0_1):=(blk_cell a4.out 1).trans rfl;have j8:=blk_frozen a4.out 0;have j9:=blk_frozen a4.out 1
      go_wp2
      go_ret
      exact⟨zq352,zq91⟩
 ·rw [if_neg c4] at H;exact absurd H (by simp)
end Go.Proofs.Ytdoomkcgdcfmlaa.Print
end
section
namespace Go.Proofs.Ytdoomkcgdcfmlaa.Print
open Go.RowKit Go.Proofs.YtdoomkcgdcfmlaaW.PrintWords Go.Proofs.YtdoomkcgdcfmlaaW.PrintLast Go.Proofs.YtdoomkcgdcfmlaaW.PrintMore
def spec_NoOf.f (k : Nat) (l0_0 : List (List Int)) (l0_1 : List Int) : Option (Int) := (spec_LogicOk.f k l0_0 l0_1).bind fun t959 => (if t959 = true then ((spec_LeastOf.f k l0_0).bind fun bt960 => (some bt960.1)) else (some (-1)))
set_option maxHeartbeats 8000000 in
set_option maxRecDepth 100000 in
theorem spec_NoOf.calls (k : Nat) (A0_0 : Option Addr) (c0_0 : Nat) (l0_0 : List (List Int)) (A0_1 : Option Addr) (c0_1 : Nat) (l0_1 : List Int) (r : Int) (w : World) (hr0_0 : Kd.C (Kd.slice 3 (Kd.int .i64)) w A0_0 l0_0.length l0_0) (hc0_0 : l0_0.length ≤ c0_0) (hr0_1 : Kd.C (Kd.int .i64) w A0_1 l0_1.length l0_1) (hc0_1 : l0_1.length ≤ c0_1) (h : spec_NoOf.f k l0_0 l0_1 = some r) :
  Calls Try.prog 101 #[.agg #[.slice A0_0 l0_0.length c0_0, .slice A0_1 l0_1.length c0_1]] w fun e w' => e = .returned (.int .i64 r) ∧ Below w.heap.size w w' := by
 have hu30:=Try.underlying30;have a4:=zqm hr0_0;have a5:=zqm hc0_0;clear hr0_0 hc0_0;have a8:=zqm hr0_1;have a9:=zqm hc0_1;clear hr0_1 hc0_1;have HB:=zqm (Below.refl w.heap.size w);have H:((spec_LogicOk.f k l0_0 l0_1).bind fun a6=>(if a6=true then((spec_LeastOf.f k l0_0).bind fun a2=>(some a2.1)) else(some (-1))))=some r:=h;clear h;replace H:=Option.bind_eq_some_iff.mp H;obtain⟨a6,b2,H⟩:=H;replace H:(if a6=true then((spec_LeastOf.f k l0_0).bind fun a2=>(some a2.1)) else(some (-1)))=some r:=H;have A2:=zqm b2;clear b2
 by_cases c3:a6=true
 ·subst c3;(have H1:((spec_LeastOf.f k l0_0).bind fun a2=>(some a2.1))=some r:=by rw [if_pos rfl] at H;exact H);clear H;have H:=H1;clear H1;replace H:=Option.bind_eq_some_iff.mp H;obtain⟨⟨b0,b4⟩,b3,H⟩:=H;replace H:(some b0)=some r:=H;have A4:=zqm b3;clear b3;obtain rfl:=Option.some.inj H
  go_enter Try.func101,Try.ntmps101
  go_wp2_with (first|((with_reducible refine gate_dst (N:=1) rfl ?_);refine box_event ?hg (N:=1) ?hd (cs:= #[.slice A0_0 l0_0.length c0_0,.slice A0_1 l0_1.length c0_1]) (t:=30) ?hr ?_;(case hd=>rfl);(case hg=>rfl);(case hr=>first|(go_simp;done)|(go_simp;rfl));intro a1 hg w5 hbox hb;have a7:=zqm (below_step zq0 hb);have a0:=zqm (hbox);have b1:=zqm ((by rw [hg];exact(below_size zq0):w.heap.size≤a1));have a3:=zqm ((by rw [hg];exact(below_size zq0):w.heap.size≤a1));clear HB;have HB:=a7;clear a7 hb hbox hg;have b9:w5.cell? ⟨a1,0,none⟩=some (.slice A0_0 l0_0.length c0_0):=(blk_cell a0.out 0).trans rfl;have c0:w5.cell? ⟨a1,1,none⟩=some (.slice A0_1 l0_1.length c0_1):=(blk_cell a0.out 1).trans rfl;have c1:=blk_frozen a0.out 0;have c2:=blk_frozen a0.out 1)|((with_reducible refine gate_callee (f:=42) rfl ?_);refine goesL_ (some 6) rfl rfl Try.func42 zqk rfl #[.agg #[.slice A0_0 l0_0.length c0_0,.slice A0_1 l0_1.length c0_1]] rfl zq1 ?_;(with_reducible refine(spec_LogicOk.calls k _ _ l0_0 _ _ l0_1 true _ ?side1 ?side2 ?side3 ?side4 A2.out).mono ?_);(case side1=> exact zq292);(case side2=>exact a5.out);(case side3=> exact zq26);(case side4=>exact a9.out);rintro e w7 ⟨rfl,hb⟩;refine⟨_,rfl,?_⟩;replace a0:=zqm (blk_below (g:=a1) (o:= .cells #[.slice A0_0 l0_0.length c0_0,.slice A0_1 l0_1.length c0_1] 30 (0,0)) zq2 hb);replace HB:=zqm (below_step zq21 hb);clear hb;have c4:w7.cell? ⟨a1,0,none⟩=some (.slice A0_0 l0_0.length c0_0):=(blk_cell a0.out 0).trans rfl;have c5:w7.cell? ⟨a1,1,none⟩=some (.slice A0_1 l0_1.length c0_1):=(blk_cell a0.out 1).trans rfl;have c6:=blk_frozen a0.out 0;have c7:=blk_frozen a0.out 1)|((with_reducible refine gate_callee (f:=95) rfl ?_);refine goesL_ (some 11) rfl rfl Try.func95 zqk rfl #[.slice A0_0 l0_0.length c0_0] rfl zq1 ?_;(with_reducible refine(spec_LeastOf.calls k _ _ l0_0 b0 b4 _ ?side1 ?side2 A4.out).mono ?_);(case side1=> exact zq292);(case side2=>exact a5.out);rintro e w' ⟨rfl,⟨nd,rfl⟩⟩;refine⟨_,rfl,?_⟩))
  go_ret
  exact⟨zq11,zq21⟩
 ·replace c3:=Bool.eq_false_iff.mpr c3;subst c3;(have H1:(some (-1))=some r:=by rw [if_neg (show¬(false=true) by decide)] at H;exact H);clear H;have H:=H1;clear H1;obtain rfl:=Option.some.inj H
  go_enter Try.func101,Try.ntmps101
  go_wp2_with (first|((with_reducible refine gate_dst (N:=1) rfl ?_);refine box_event ?hg (N:=1) ?hd (cs:= #[.slice A0_0 l0_0.length c0_0,.slice A0_1 l0_1.length c0_1]) (t:=30) ?hr ?_;(case hd=>rfl);(case hg=>rfl);(case hr=>first|(go_simp;done)|(go_simp;rfl));intro a1 hg w9 hbox hb;have a7:=zqm (below_step zq0 hb);have a0:=zqm (hbox);have b1:=zqm ((by rw [hg];exact(below_size zq0):w.heap.size≤a1));have a3:=zqm ((by rw [hg];exact(below_size zq0):w.heap.size≤a1));clear HB;have HB:=a7;clear a7 hb hbox hg;have b5:w9.cell? ⟨a1,0,none⟩=some (.slice A0_0 l0_0.length c0_0):=(blk_cell a0.out 0).trans rfl;have b6:w9.cell? ⟨a1,1,none⟩=some (.slice A0_1 l0_1.length c0_1):=(blk_cell a0.out 1).trans rfl;have b7:=blk_frozen a0.out 0;have b8:=blk_frozen a0.out 1)|((with_reducible refine gate_callee (f:=42) rfl ?_);refine goesL_ (some 6) rfl rfl Try.func42 zqk rfl #[.agg #[.slice A0_0 l0_0.length c0_0,.slice A0_1 l0_1.length c0_1]] rfl zq1 ?_;(with_reducible refine(spec_LogicOk.calls k _ _ l0_0 _ _ l0_1 false _ ?side1 ?side2 ?side3 ?side4 A2.out).mono ?_);(case side1=> exact zq292);(case side2=>exact a5.out);(case side3=> exact zq26);(case side4=>exact a9.out);rintro e c8 ⟨rfl,hb⟩;refine⟨_,rfl,?_⟩;replace a0:=zqm (blk_below (g:=a1) (o:= .cells #[.slice A0_0 l0_0.length c0_0,.slice A0_1 l0_1.length c0_1] 30 (0,0)) zq2 hb);replace HB:=zqm (below_step zq21 hb);clear hb))
  go_ret
  exact⟨zq11,zq21⟩
def spec_YesOf.f (k : Nat) (l0_0 : List (List Int)) (l0_1 : List Int) : Option (Int) := (spec_NoOf.f k l0_0 l0_1).bind fun t1001 => ((spec_NotOf.f k l0_0 l0_1 t1001).bind fun t1002 => (some t1002))
set_option maxHeartbeats 8000000 in
set_option maxRecDepth 100000 in
theorem spec_YesOf.calls (k : Nat) (A0_0 : Option Addr) (c0_0 : Nat) (l0_0 : List (List Int)) (A0_1 : Option Addr) (c0_1 : Nat) (l0_1 : List Int) (r : Int) (w : World) (hr0_0 : Kd.C (Kd.slice 3 (Kd.int .i64)) w A0_0 l0_0.length l0_0) (hc0_0 : l0_0.length ≤ c0_0) (hr0_1 : Kd.C (Kd.int .i64) w A0_1 l0_1.length l0_1) (hc0_1 : l0_1.length ≤ c0_1) (h : spec_YesOf.f k l0_0 l0_1 = some r) :
  Calls Try.prog 106 #[.agg #[.slice A0_0 l0_0.length c0_0, .slice A0_1 l0_1.length c0_1]] w fun e w' => e = .returned (.int .i64 r) ∧ Below w.heap.size w w' := by
 have hu30:=Try.underlying30;have a5:=zqm hr0_0;have a6:=zqm hc0_0;clear hr0_0 hc0_0;have a7:=zqm hr0_1;have a8:=zqm hc0_1;clear hr0_1 hc0_1;have HB:=zqm (Below.refl w.heap.size w);have H:((spec_NoOf.f k l0_0 l0_1).bind fun a2=>((spec_NotOf.f k l0_0 l0_1 a2).bind fun a3=>(some a3)))=some r:=h;clear h;replace H:=Option.bind_eq_some_iff.mp H;obtain⟨a2,a9,H⟩:=H;replace H:((spec_NotOf.f k l0_0 l0_1 a2).bind fun a3=>(some a3))=some r:=H;have A2:=zqm a9;clear a9;replace H:=Option.bind_eq_some_iff.mp H;obtain⟨a3,b0,H⟩:=H;replace H:(some a3)=some r:=H;have A3:=zqm b0;clear b0;obtain rfl:=Option.some.inj H
 go_enter Try.func106,Try.ntmps106
 (try go_wp2_with (first|((with_reducible refine gate_dst (N:=1) rfl ?_);refine box_event ?hg (N:=1) ?hd (cs:= #[.slice A0_0 l0_0.length c0_0,.slice A0_1 l0_1.length c0_1]) (t:=30) ?hr ?_;(case hd=>rfl);(case hg=>rfl);(case hr=>first|(go_simp;done)|(go_simp;rfl));intro a1 hg w4 hbox hb;have b1:=zqm (below_step zq0 hb);have a0:=zqm (hbox);have b2:=zqm ((by rw [hg];exact(below_size zq0):w.heap.size≤a1));have a4:=zqm ((by rw [hg];exact(below_size zq0):w.heap.size≤a1));clear HB;have HB:=b1;clear b1 hb hbox hg)));replace a0:=zqm (blk_drew a0.out);replace HB:=zqm (below_drew1 HB.out);refine start_ (n:=5) (S:=fun w'=>w'.cell? ⟨a1,0,none⟩=some (.slice A0_0 l0_0.length c0_0)∧w'.cell? ⟨a1,1,none⟩=some (.slice A0_1 l0_1.length c0_1)) (ds:= []) (zqb 5 0) zqk rfl rfl ⟨(blk_cell a0.out 0).trans rfl,(blk_cell a0.out 1).trans rfl⟩ (fun hHeld=>?_);generalize w4.drew=w5 at a0 HB hHeld ⊢;refine take_ (i:=0) (N:=some 3) (v:=?_) (a':=?_) (zqb 5 1) rfl rfl zqk (fun _ _ _ h=>h) (Or.inl ⟨by rfl,?_⟩) hHeld ?_ ?_;rotate_left
 ·rintro w' ⟨s0,s1⟩;go_simp;with_reducible rfl
 rotate_left
 ·exact zqs
 refine take_ (i:=1) (N:=some 4) (v:=?_) (a':=?_) (zqb 5 3) rfl rfl zqk (fun _ _ _ h=>h) (Or.inl ⟨by rfl,?_⟩) hHeld ?_ ?_;rotate_left
 ·rintro w' ⟨s0,s1⟩;go_simp;with_reducible rfl
 rotate_left
 ·exact zqs
 refine one_ (i:=2) (N:=some 5) (zqb 5 7) rfl rfl zqk (by decide) (fun K hK=>?_);refine goes_ Try.func101 zqk rfl #[.agg #[.slice A0_0 l0_0.length c0_0,.slice A0_1 l0_1.length c0_1]] (by rfl) rfl rfl zq1 ?_;(with_reducible refine(spec_NoOf.calls k _ _ l0_0 _ _ l0_1 a2 _ ?side1 ?side2 ?side3 ?side4 A2.out).mono ?_);(case side1=> exact zq38);(case side2=>exact a6.out);(case side3=> exact zq341);(case side4=>exact a8.out);rintro e w6 ⟨rfl,hb⟩;refine⟨_,rfl,?_⟩;replace a0:=zqm (blk_below (g:=a1) (o:= .cells #[.slice A0_0 l0_0.length c0_0,.slice A0_1 l0_1.length c0_1] 30 (0,0)) zq2 hb);replace HB:=zqm (below_step zq8 hb);clear hb;refine hK.out _ _ ⟨(blk_cell a0.out 0).trans rfl,(blk_cell a0.out 1).trans rfl⟩ (fun hHeld=>?_);clear hK K;refine norm_ (a':=?_) ?_ ?_;rotate_left
 ·show Act.put _ (some 5) _=_;exact zqs
 refine one_ (i:=3) (N:=some 6) (zqb 5 15) rfl rfl zqk (by decide) (fun K hK=>?_);refine goes_ Try.func96 zqk rfl #[.agg #[.slice A0_0 l0_0.length c0_0,.slice A0_1 l0_1.length c0_1],.int .i64 a2] (by rfl) rfl rfl zq1 ?_;(with_reducible refine(spec_NotOf.calls k _ _ l0_0 _ _ l0_1 a2 a3 _ ?side1 ?side2 ?side3 ?side4 A3.out).mono ?_);(case side1=> exact zq38);(case side2=>exact a6.out);(case side3=> exact zq341);(case side4=>exact a8.out);rintro e w7 ⟨rfl,hb⟩;refine⟨_,rfl,?_⟩;replace a0:=zqm (blk_below (g:=a1) (o:= .cells #[.slice A0_0 l0_0.length c0_0,.slice A0_1 l0_1.length c0_1] 30 (0,0)) zq2 hb);replace HB:=zqm (below_step zq8 hb);clear hb;refine hK.out _ _ ⟨(blk_cell a0.out 0).trans rfl,(blk_cell a0.out 1).trans rfl⟩ (fun hHeld=>?_);clear hK K;refine norm_ (a':=?_) ?_ ?_;rotate_left
 ·show Act.put _ (some 6) _=_;exact zqs
 refine pure_ (i:=4) (N:=some 2) (v:=?_) (a':=?_) (zqb 5 31) rfl rfl zqk (fun _ _ _ h=>h) (Or.inl ⟨by rfl,?_⟩) ?_ ?_;rotate_left
 ·exact zqt
 rotate_left
 ·exact zqs
 refine done_ zqk ?_;try go_wp2
 go_ret
 exact⟨zq11,zq8⟩
def spec_StatesOf.l0 : Nat → List Int → Int → Int → List (List Int) → List Int → Option (List Int)
 | 0, _, _, _, _, _ => none
 | k + 1, x3, x4, x5, x1004000, x1004001 => if x5 < (shl .i64 1 (x1004001.length : Int)) then ((spec_l9State.f k x1004000 x1004001 x5 x4).bind fun t1009 => (if t1009 = true then (if x3.length < 17592186044416 then (spec_StatesOf.l0 k (x3 ++ [x5]) x4 (wrap64 (x5 + 1)) x1004000 x1004001) else (none)) else (spec_StatesOf.l0 k x3 x4 (wrap64 (x5 + 1)) x1004000 x1004001))) else (some x3)
def spec_StatesOf.f (k : Nat) (l0_0 : List (List Int)) (l0_1 : List Int) : Option (List Int) := (some (([] : List Int) : List Int)).bind fun y1004 => ((spec_LogicOk.f k l0_0 l0_1).bind fun t1007 => (if t1007 = true then ((spec_YesOf.f k l0_0 l0_1).bind fun t1008 => (spec_StatesOf.l0 k y1004 t1008 1 l0_0 l0_1)) else (some y1004)))
set_option maxHeartbeats 8000000 in
set_option maxRecDepth 100000 in
theorem spec_StatesOf.calls (k : Nat) (A0_0 : Option Addr) (c0_0 : Nat) (l0_0 : List (List Int)) (A0_1 : Option Addr) (c0_1 : Nat) (l0_1 : List Int) (r : List Int) (w : World) (hr0_0 : Kd.C (Kd.slice 3 (Kd.int .i64)) w A0_0 l0_0.length l0_0) (hc0_0 : l0_0.length ≤ c0_0) (hr0_1 : Kd.C (Kd.int .i64) w A0_1 l0_1.length l0_1) (hc0_1 : l0_1.length ≤ c0_1) (h : spec_StatesOf.f k l0_0 l0_1 = some r) :
  Calls Try.prog 102 #[.agg #[.slice A0_0 l0_0.length c0_0, .slice A0_1 l0_1.length c0_1]] w fun e w' => ∃ v0_ : Value, e = .returned (v0_) ∧ Kd.R (Kd.int .i64) 3 w' w.heap.size (fun _ => True) v0_ r ∧ Below w.heap.size w w' := by
 have hu30:=Try.underlying30;have b2:=zqm hr0_0;have b3:=zqm hc0_0;clear hr0_0 hc0_0;have b4:=zqm hr0_1;have b5:=zqm hc0_1;clear hr0_1 hc0_1;have HB:=zqm (Below.refl w.heap.size w);have H:((some (([]:List Int):List Int)).bind fun a6=>((spec_LogicOk.f k l0_0 l0_1).bind fun b1=>(if b1=true then((spec_YesOf.f k l0_0 l0_1).bind fun a2=>(spec_StatesOf.l0 k a6 a2 1 l0_0 l0_1)) else(some a6))))=some r:=h;clear h;obtain⟨a6,a9⟩: ∃y_:List Int,y_=(([]:List Int)):=⟨_,rfl⟩;(replace H:((spec_LogicOk.f k l0_0 l0_1).bind fun b1=>(if b1=true then((spec_YesOf.f k l0_0 l0_1).bind fun a2=>(spec_StatesOf.l0 k a6 a2 1 l0_0 l0_1)) else(some a6)))=some r:=by first|(rw [a9];with_reducible exact H)|(have b9:=(Option.bind_some _ _).symm.trans H;rw [a9];with_reducible exact b9)|(have b9:=(Option.bind_some _ _).symm.trans H;with_reducible exact b9)|with_reducible exact H|(rw [a9];exact H)|exact H);have b6:=zqm a9;clear a9;replace H:=Option.bind_eq_some_iff.mp H;obtain⟨b1,e6,H⟩:=H;replace H:(if b1=true then((spec_YesOf.f k l0_0 l0_1).bind fun a2=>(spec_StatesOf.l0 k a6 a2 1 l0_0 l0_1)) else(some a6))=some r:=H;have A2:=zqm e6;clear e6
 by_cases c3:b1=true
 ·subst c3;(have H1:((spec_YesOf.f k l0_0 l0_1).bind fun a2=>(spec_StatesOf.l0 k a6 a2 1 l0_0 l0_1))=some r:=by rw [if_pos rfl] at H;exact H);clear H;have H:=H1;clear H1;replace H:=Option.bind_eq_some_iff.mp H;obtain⟨a2,e7,H⟩:=H;replace H:(spec_StatesOf.l0 k a6 a2 1 l0_0 l0_1)=some r:=H;have A4:=zqm e7;clear e7;have H':=zqm H;clear H
  go_enter Try.func102,Try.ntmps102
  go_wp2_with (first|((with_reducible refine gate_dst (N:=1) rfl ?_);refine box_event ?hg (N:=1) ?hd (cs:= #[.slice A0_0 l0_0.length c0_0,.slice A0_1 l0_1.length c0_1]) (t:=30) ?hr ?_;(case hd=>rfl);(case hg=>rfl);(case hr=>first|(go_simp;done)|(go_simp;rfl));intro a1 hg w5 hbox hb;have c6:=zqm (below_step zq0 hb);have a0:=zqm (hbox);have d6:=zqm ((by rw [hg];exact(below_size zq0):w.heap.size≤a1));have a4:=zqm ((by rw [hg];exact(below_size zq0):w.heap.size≤a1));clear HB;have HB:=c6;clear c6 hb hbox hg)|((with_reducible refine gate_dst (N:=6) rfl ?_);refine Kd.R_lit (Kd.int .i64) _ 3 ?hg (N:=6) ?hd (xs:=([]:List Int)) (inner:= []) (ok:=fun _=>True) (okp:=fun _=>True) ?hr ?hp (fun _ hk=>hk) trivial (Below.refl _ _) (Nat.le_refl _) (by simp) ?_;(case hd=>rfl);(case hg=>rfl);(case hr=>first|(go_simp;done)|(go_simp;rfl));(case hp=>exact(Reps.none _ _));intro e4 w6 c7 hb hg_ hnew_;clear hg_ hnew_;(first|rw [← b6.out] at c7|(simp only [Int.reduceToNat] at c7;rw [← b6.out] at c7));have a7:=zqm (Kd.R_lower c7 (below_size zq8));replace a0:=zqm (blk_below (g:=a1) (o:= .cells #[.slice A0_0 l0_0.length c0_0,.slice A0_1 l0_1.length c0_1] 30 (0,0)) zq2 hb);replace HB:=zqm (below_step zq8 hb);clear hb c7;have d7:w6.cell? ⟨a1,0,none⟩=some (.slice A0_0 l0_0.length c0_0):=(blk_cell a0.out 0).trans rfl;have d8:w6.cell? ⟨a1,1,none⟩=some (.slice A0_1 l0_1.length c0_1):=(blk_cell a0.out 1).trans rfl;have d9:=blk_frozen a0.out 0;have e0:=blk_frozen a0.out 1)|((with_reducible refine gate_callee (f:=42) rfl ?_);refine goesL_ (some 8) rfl rfl Try.func42 zqk rfl #[.agg #[.slice A0_0 l0_0.length c0_0,.slice A0_1 l0_1.length c0_1]] rfl zq1 ?_;(with_reducible refine(spec_LogicOk.calls k _ _ l0_0 _ _ l0_1 true _ ?side1 ?side2 ?side3 ?side4 A2.out).mono ?_);(case side1=> exact zq96);(case side2=>exact b3.out);(case side3=> exact zq155);(case side4=>exact b5.out);rintro e w9 ⟨rfl,hb⟩;refine⟨_,rfl,?_⟩;replace a7:=zqm (Kd.R_below zq302 hb);replace a0:=zqm (blk_below (g:=a1) (o:= .cells #[.slice A0_0 l0_0.length c0_0,.slice A0_1 l0_1.length c0_1] 30 (0,0)) zq2 hb);replace HB:=zqm (below_step zq8 hb);clear hb;have d2:w9.cell? ⟨a1,0,none⟩=some (.slice A0_0 l0_0.length c0_0):=(blk_cell a0.out 0).trans rfl;have d3:w9.cell? ⟨a1,1,none⟩=some (.slice A0_1 l0_1.length c0_1):=(blk_cell a0.out 1).trans rfl;have d4:=blk_frozen a0.out 0;have d5:=blk_frozen a0.out 1)|((with_reducible refine gate_callee (f:=106) rfl ?_);refine goesL_ (some 12) rfl rfl Try.func106 zqk rfl #[.agg #[.slice A0_0 l0_0.length c0_0,.slice A0_1 l0_1.length c0_1]] rfl zq1 ?_;(with_reducible refine(spec_YesOf.calls k _ _ l0_0 _ _ l0_1 a2 _ ?side1 ?side2 ?side3 ?side4 A4.out).mono ?_);(case side1=> exact zq96);(case side2=>exact b3.out);(case side3=> exact zq155);(case side4=>exact b5.out);rintro e g7 ⟨rfl,hb⟩;refine⟨_,rfl,?_⟩;replace a7:=zqm (Kd.R_below zq302 hb);replace a0:=zqm (blk_below (g:=a1) (o:= .cells #[.slice A0_0 l0_0.length c0_0,.slice A0_1 l0_1.length c0_1] 30 (0,0)) zq2 hb);replace HB:=zqm (below_step zq8 hb);clear hb))
  go_loopg [3,5] k (fun kq v3 v5 w'=> ∃(a5:List Int) (a3:Int),v5= .int .i64 a3∧Aside0 (spec_StatesOf.l0 kq a5 a2 a3 l0_0 l0_1=some r)∧Aside0 (kq≤k)∧Aside0 (Kd.R (Kd.int .i64) 3 w' w.heap.size (fun _=>True) v3 a5)∧Aside0 (w'.heap[a1]? =some (.cells #[(.slice A0_0 l0_0.length c0_0),(.slice A0_1 l0_1.length c0_1)] 30 (0,0)))∧Aside0 (Below w.heap.size w w'))
  case atStart=>exact⟨(a6),(1),(by first|rfl|(simp;done)|(simp [*];done)),H',⟨Nat.le_refl _⟩,⟨zq302⟩,⟨zq2⟩,⟨zq8⟩⟩
  case round=>
   clear H';(try clear c1);(try clear p2);(try clear c3);(try clear c4);(try clear g8);(try clear d2);(try clear d3);(try clear d7);(try clear d8);(try clear d4);(try clear d5);(try clear d9);(try clear e0);obtain⟨a5,a3,rfl,HA,c8,HO_3,a0,HB⟩:=hrel
   cases gk with
   |zero=>exact absurd HA.out (by simp [spec_StatesOf.l0])
   |succ k1=>
    have H:=HA.out;clear HA;simp only [spec_StatesOf.l0] at H;obtain⟨a8,b7⟩: ∃j_:Int,(shl .i64 1 (l0_1.length:Int))=j_:=⟨_,rfl⟩;(replace H:(if a3<(a8) then((spec_l9State.f k1 l0_0 l0_1 a3 a2).bind fun b8=>(if b8=true then(if a5.length<17592186044416 then(spec_StatesOf.l0 k1 (a5 ++ [a3]) a2 (wrap64 (a3+1)) l0_0 l0_1) else(none)) else(spec_StatesOf.l0 k1 a5 a2 (wrap64 (a3+1)) l0_0 l0_1))) else(some a5))=some r:=by first|(rw [b7] at H;exact H)|(simp only [b7] at H ⊢;exact H));have c0:(IntKind.i64.wrap (1*2 ^ min (l0_1.length:Int).toNat 64))=a8:=b7;have hji12z:(l0_1.length:Int)≤64→(IntKind.i64.wrap (1*2 ^ (l0_1.length:Int).toNat))=a8:=shl_small b7;have hji12p:(IntKind.i64.wrap (1*2 ^ min l0_1.length 64))=a8:=c0;have hji12q:(l0_1.length:Int)≤64→(IntKind.i64.wrap (1*2 ^ l0_1.length))=a8:=hji12z;(have hji12r:(IntKind.i64.wrap (2 ^ min l0_1.length 64))=a8:=by have h_:=hji12p;rw [Int.one_mul] at h_;exact h_);(have hji12s:(l0_1.length:Int)≤64→(IntKind.i64.wrap (2 ^ l0_1.length))=a8:=fun hle_=>by have h_:=hji12q hle_;rw [Int.one_mul] at h_;exact h_);(have hji12u:(IntKind.i64.wrap (2 ^ min (l0_1.length:Int).toNat 64))=a8:=by have h_:=c0;rw [Int.one_mul] at h_;exact h_);(have hji12v:(l0_1.length:Int)≤64→(IntKind.i64.wrap (2 ^ (l0_1.length:Int).toNat))=a8:=fun hle_=>by have h_:=hji12z hle_;rw [Int.one_mul] at h_;exact h_);have hji12y:(wrap64 (1*2 ^ min (l0_1.length:Int).toNat 64))=a8:=(i64_w _).symm.trans c0;have hji12x:(l0_1.length:Int)≤64→(wrap64 (1*2 ^ (l0_1.length:Int).toNat))=a8:=fun h_=>(i64_w _).symm.trans (hji12z h_)
    by_cases c5:a3<(a8)
    ·rw [if_pos c5] at H;have e5:decide (a3<(a8))=true:=decide_eq_true c5;clear c5;replace H:=Option.bind_eq_some_iff.mp H;obtain⟨b8,e1,H⟩:=H;replace H:(if b8=true then(if a5.length<17592186044416 then(spec_StatesOf.l0 k1 (a5 ++ [a3]) a2 (wrap64 (a3+1)) l0_0 l0_1) else(none)) else(spec_StatesOf.l0 k1 a5 a2 (wrap64 (a3+1)) l0_0 l0_1))=some r:=H;have e8:=zqm e1;clear e1
     by_cases c9:b8=true
     ·subst c9;(have H1:(if a5.length<17592186044416 then(spec_StatesOf.l0 k1 (a5 ++ [a3]) a2 (wrap64 (a3+1)) l0_0 l0_1) else(none))=some r:=by rw [if_pos rfl] at H;exact H);clear H;have H:=H1;clear H1
      by_cases d0:a5.length<17592186044416
      ·rw [if_pos d0] at H;have LMc16:=zqm d0;clear d0;obtain⟨d1,b0⟩: ∃y_:List Int,y_=(a5 ++ [a3]):=⟨_,rfl⟩;(replace H:(spec_StatesOf.l0 k1 d1 a2 (wrap64 (a3+1)) l0_0 l0_1)=some r:=by first|(rw [b0];with_reducible exact H)|(have b9:=(Option.bind_some _ _).symm.trans H;rw [b0];with_reducible exact b9)|(have b9:=(Option.bind_some _ _).symm.trans H;with_reducible exact b9)|with_reducible exact H|(rw [b0];exact H)|exact H);have e2:=zqm b0;clear b0;have H':=zqm H;clear H;have f0:wr.cell? ⟨a1,0,none⟩=some (.slice A0_0 l0_0.length c0_0):=(blk_cell a0.out 0).trans rfl;have f1:wr.cell? ⟨a1,1,none⟩=some (.slice A0_1 l0_1.length c0_1):=(blk_cell a0.out 1).trans rfl;have f2:=blk_frozen a0.out 0;have f3:=blk_frozen a0.out 1
       go_wp2_with (first|((with_reducible refine gate_callee (f:=105) rfl ?_);refine goesL_ (some 24) rfl rfl Try.func105 zqk rfl #[.agg #[.slice A0_0 l0_0.length c0_0,.slice A0_1 l0_1.length c0_1],.int .i64 a3,.int .i64 a2] rfl zq1 ?_;(with_reducible refine(spec_l9State.calls k1 _ _ l0_0 _ _ l0_1 a3 a2 true _ ?side1 ?side2 ?side3 ?side4 e8.out).mono ?_);(case side1=> exact zq96);(case side2=>exact b3.out);(case side3=> exact zq155);(case side4=>exact b5.out);rintro e g9 ⟨rfl,hb⟩;refine⟨_,rfl,?_⟩;replace HO_3:=zqm (Kd.R_below zq58 hb);replace a0:=zqm (blk_below (g:=a1) (o:= .cells #[.slice A0_0 l0_0.length c0_0,.slice A0_1 l0_1.length c0_1] 30 (0,0)) zq2 hb);replace HB:=zqm (below_step zq8 hb);clear hb)|((with_reducible refine gate_builtin (b:= .append) (xs:= #[.tmp 25,.tmp 27]) rfl ?_);at_builtin;refine Kd.R_append (Kd.int .i64) (w0:=w) w.heap.size rfl (.tmp 25) (.tmp 27) 28 3 (.int .i64 0) 8 rfl Try.underlying28 info3 rfl (by decide) (by omega) u3 a5 a3 [.int .i64 a3] (fun _=>True) (fun _=>False) rfl rfl ?aP (fun _ hk=>hk.elim) ?aF ?aO ?aB ?aS ?aL ?_;(case aP=>exact rfl);(case aB=>exact zq8);(case aF=>exact(fun _ _=>trivial));(case aO=> exact zq122);(case aS=>exact(below_size zq8));(case aL=>have:=LMc16.out;omega);intro g6 h0 ho hb hg hat;rw [← e2.out] at ho;replace a0:=zqm (blk_grown (g:=a1) (o:= .cells #[.slice A0_0 l0_0.length c0_0,.slice A0_1 l0_1.length c0_1] 30 (0,0)) zq2 hg (Kd.R_ne HO_3.out a0.out (by decide)));replace HB:=zqm (hb);have e3:=zqm (ho);clear HO_3;clear ho hb hg hat))
       go_roundg k1
       (case measure=>have:=c8.out;omega);case rel=>exact⟨(d1),(wrap64 (a3+1)),(by first|rfl|(simp;done)|(simp [*];done)),H',⟨by have:=c8.out;omega⟩,⟨zq389⟩,⟨zq2⟩,⟨zq8⟩⟩
      ·rw [if_neg d0] at H;exact absurd H (by simp)
     ·replace c9:=Bool.eq_false_iff.mpr c9;subst c9;(have H1:(spec_StatesOf.l0 k1 a5 a2 (wrap64 (a3+1)) l0_0 l0_1)=some r:=by rw [if_neg (show¬(false=true) by decide)] at H;exact H);clear H;have H:=H1;clear H1;have H':=zqm H;clear H;have f4:wr.cell? ⟨a1,0,none⟩=some (.slice A0_0 l0_0.length c0_0):=(blk_cell a0.out 0).trans rfl;have f5:wr.cell? ⟨a1,1,none⟩=some (.slice A0_1 l0_1.length c0_1):=(blk_cell a0.out 1).trans rfl;have f6:=blk_frozen a0.out 0;have f7:=blk_frozen a0.out 1
      go_wp2_with (first|((with_reducible refine gate_callee (f:=105) rfl ?_);refine goesL_ (some 24) rfl rfl Try.func105 zqk rfl #[.agg #[.slice A0_0 l0_0.length c0_0,.slice A0_1 l0_1.length c0_1],.int .i64 a3,.int .i64 a2] rfl zq1 ?_;(with_reducible refine(spec_l9State.calls k1 _ _ l0_0 _ _ l0_1 a3 a2 false _ ?side1 ?side2 ?side3 ?side4 e8.out).mono ?_);(case side1=> exact zq96);(case side2=>exact b3.out);(case side3=> exact zq155);(case side4=>exact b5.out);rintro e h1 ⟨rfl,hb⟩;refine⟨_,rfl,?_⟩;replace HO_3:=zqm (Kd.R_below zq58 hb);replace a0:=zqm (blk_below (g:=a1) (o:= .cells #[.slice A0_0 l0_0.length c0_0,.slice A0_1 l0_1.length c0_1] 30 (0,0)) zq2 hb);replace HB:=zqm (below_step zq8 hb);clear hb))
      go_roundg k1
      (case measure=>have:=c8.out;omega);case rel=>exact⟨(a5),(wrap64 (a3+1)),(by first|rfl|(simp;done)|(simp [*];done)),H',⟨by have:=c8.out;omega⟩,⟨zq58⟩,⟨zq2⟩,⟨zq8⟩⟩
    ·rw [if_neg c5] at H;have e5:decide (a3<(a8))=false:=decide_eq_false c5;clear c5;obtain rfl:=Option.some.inj H;have f8:wr.cell? ⟨a1,0,none⟩=some (.slice A0_0 l0_0.length c0_0):=(blk_cell a0.out 0).trans rfl;have f9:wr.cell? ⟨a1,1,none⟩=some (.slice A0_1 l0_1.length c0_1):=(blk_cell a0.out 1).trans rfl;have g0:=blk_frozen a0.out 0;have g1:=blk_frozen a0.out 1
     go_wp2
     go_ret
     exact⟨_,by first|rfl|(simp [errW_none,errW_some] <;> rfl)|(simp only [← b7];first|rfl|(simp [errW_none,errW_some] <;> rfl))|(simp [*,errW_none,errW_some] <;> rfl),zq58,zq8⟩
 ·replace c3:=Bool.eq_false_iff.mpr c3;subst c3;(have H1:(some a6)=some r:=by rw [if_neg (show¬(false=true) by decide)] at H;exact H);clear H;have H:=H1;clear H1;obtain rfl:=Option.some.inj H
  go_enter Try.func102,Try.ntmps102
  go_wp2_with (first|((with_reducible refine gate_dst (N:=1) rfl ?_);refine box_event ?hg (N:=1) ?hd (cs:= #[.slice A0_0 l0_0.length c0_0,.slice A0_1 l0_1.length c0_1]) (t:=30) ?hr ?_;(case hd=>rfl);(case hg=>rfl);(case hr=>first|(go_simp;done)|(go_simp;rfl));intro a1 hg h2 hbox hb;have c6:=zqm (below_step zq0 hb);have a0:=zqm (hbox);have d6:=zqm ((by rw [hg];exact(below_size zq0):w.heap.size≤a1));have a4:=zqm ((by rw [hg];exact(below_size zq0):w.heap.size≤a1));clear HB;have HB:=c6;clear c6 hb hbox hg)|((with_reducible refine gate_dst (N:=6) rfl ?_);refine Kd.R_lit (Kd.int .i64) _ 3 ?hg (N:=6) ?hd (xs:=([]:List Int)) (inner:= []) (ok:=fun _=>True) (okp:=fun _=>True) ?hr ?hp (fun _ hk=>hk) trivial (Below.refl _ _) (Nat.le_refl _) (by simp) ?_;(case hd=>rfl);(case hg=>rfl);(case hr=>first|(go_simp;done)|(go_simp;rfl));(case hp=>exact(Reps.none _ _));intro e4 e9 c2 hb hg_ hnew_;clear hg_ hnew_;(first|rw [← b6.out] at c2|(simp only [Int.reduceToNat] at c2;rw [← b6.out] at c2));have a7:=zqm (Kd.R_lower c2 (below_size zq8));replace a0:=zqm (blk_below (g:=a1) (o:= .cells #[.slice A0_0 l0_0.length c0_0,.slice A0_1 l0_1.length c0_1] 30 (0,0)) zq2 hb);replace HB:=zqm (below_step zq8 hb);clear hb c2;have g2:e9.cell? ⟨a1,0,none⟩=some (.slice A0_0 l0_0.length c0_0):=(blk_cell a0.out 0).trans rfl;have g3:e9.cell? ⟨a1,1,none⟩=some (.slice A0_1 l0_1.length c0_1):=(blk_cell a0.out 1).trans rfl;have g4:=blk_frozen a0.out 0;have g5:=blk_frozen a0.out 1)|((with_reducible refine gate_callee (f:=42) rfl ?_);refine goesL_ (some 8) rfl rfl Try.func42 zqk rfl #[.agg #[.slice A0_0 l0_0.length c0_0,.slice A0_1 l0_1.length c0_1]] rfl zq1 ?_;(with_reducible refine(spec_LogicOk.calls k _ _ l0_0 _ _ l0_1 false _ ?side1 ?side2 ?side3 ?side4 A2.out).mono ?_);(case side1=> exact zq96);(case side2=>exact b3.out);(case side3=> exact zq155);(case side4=>exact b5.out);rintro e h3 ⟨rfl,hb⟩;refine⟨_,rfl,?_⟩;replace a7:=zqm (Kd.R_below zq302 hb);replace a0:=zqm (blk_below (g:=a1) (o:= .cells #[.slice A0_0 l0_0.length c0_0,.slice A0_1 l0_1.length c0_1] 30 (0,0)) zq2 hb);replace HB:=zqm (below_step zq8 hb);clear hb))
  go_ret
  exact⟨_,zq11,zq302,zq8⟩
def spec_ToldBy.l0 : Nat → Int → Int → List Int → Int → Option (Int)
 | 0, _, _, _, _ => none
 | k + 1, x1, x5, x6, x7 => if x7 < (x6.length : Int) then (if 0 ≤ x7 then (if 0 ≤ x1 then (spec_ToldBy.l0 k x1 (wrap64 (x5 + (Int.tmod (shr .i64 (rd x6 x7) x1) 2))) x6 (wrap64 (x7 + 1))) else (none)) else (none)) else (some x5)
def spec_ToldBy.f (k : Nat) (l0_0 : List (List Int)) (l0_1 : List Int) (a1 : Int) : Option (Int) := (spec_NotOf.f k l0_0 l0_1 a1).bind fun t1080 => (if t1080 < 0 then (some (-1)) else ((spec_StatesOf.f k l0_0 l0_1).bind fun t1081 => (spec_ToldBy.l0 k a1 0 t1081 0)))
set_option maxHeartbeats 8000000 in
set_option maxRecDepth 100000 in
theorem spec_ToldBy.calls (k : Nat) (A0_0 : Option Addr) (c0_0 : Nat) (l0_0 : List (List Int)) (A0_1 : Option Addr) (c0_1 : Nat) (l0_1 : List Int) (a1 : Int) (r : Int) (w : World) (hr0_0 : Kd.C (Kd.slice 3 (Kd.int .i64)) w A0_0 l0_0.length l0_0) (hc0_0 : l0_0.length ≤ c0_0) (hr0_1 : Kd.C (Kd.int .i64) w A0_1 l0_1.length l0_1) (hc0_1 : l0_1.length ≤ c0_1) (h : spec_ToldBy.f k l0_0 l0_1 a1 = some r) :
  Calls Try.prog 63 #[.agg #[.slice A0_0 l0_0.length c0_0, .slice A0_1 l0_1.length c0_1], .int .i64 a1] w fun e w' => e = .returned (.int .i64 r) ∧ Below w.heap.size w w' := by
 have hu30:=Try.underlying30;have b0:=zqm hr0_0;have b1:=zqm hc0_0;clear hr0_0 hc0_0;have b2:=zqm hr0_1;have b3:=zqm hc0_1;clear hr0_1 hc0_1;have HB:=zqm (Below.refl w.heap.size w);have H:((spec_NotOf.f k l0_0 l0_1 a1).bind fun a6=>(if a6<0 then(some (-1)) else((spec_StatesOf.f k l0_0 l0_1).bind fun a3=>(spec_ToldBy.l0 k a1 0 a3 0))))=some r:=h;clear h;replace H:=Option.bind_eq_some_iff.mp H;obtain⟨a6,e2,H⟩:=H;replace H:(if a6<0 then(some (-1)) else((spec_StatesOf.f k l0_0 l0_1).bind fun a3=>(spec_ToldBy.l0 k a1 0 a3 0)))=some r:=H;have A3:=zqm e2;clear e2
 by_cases c4:a6<0
 ·rw [if_pos c4] at H;have d2:decide (a6<0)=true:=decide_eq_true c4;clear c4;obtain rfl:=Option.some.inj H
  go_enter Try.func63,Try.ntmps63
  go_wp2_with (first|((with_reducible refine gate_dst (N:=2) rfl ?_);refine box_event ?hg (N:=2) ?hd (cs:= #[.slice A0_0 l0_0.length c0_0,.slice A0_1 l0_1.length c0_1]) (t:=30) ?hr ?_;(case hd=>rfl);(case hg=>rfl);(case hr=>first|(go_simp;done)|(go_simp;rfl));intro a2 hg w5 hbox hb;have b7:=zqm (below_step zq0 hb);have a0:=zqm (hbox);have d3:=zqm ((by rw [hg];exact(below_size zq0):w.heap.size≤a2));have a5:=zqm ((by rw [hg];exact(below_size zq0):w.heap.size≤a2));clear HB;have HB:=b7;clear b7 hb hbox hg;have d4:w5.cell? ⟨a2,0,none⟩=some (.slice A0_0 l0_0.length c0_0):=(blk_cell a0.out 0).trans rfl;have d5:w5.cell? ⟨a2,1,none⟩=some (.slice A0_1 l0_1.length c0_1):=(blk_cell a0.out 1).trans rfl;have d6:=blk_frozen a0.out 0;have d7:=blk_frozen a0.out 1)|((with_reducible refine gate_callee (f:=96) rfl ?_);refine goesL_ (some 10) rfl rfl Try.func96 zqk rfl #[.agg #[.slice A0_0 l0_0.length c0_0,.slice A0_1 l0_1.length c0_1],.int .i64 a1] rfl zq1 ?_;(with_reducible refine(spec_NotOf.calls k _ _ l0_0 _ _ l0_1 a1 a6 _ ?side1 ?side2 ?side3 ?side4 A3.out).mono ?_);(case side1=> exact zq45);(case side2=>exact b1.out);(case side3=> exact zq96);(case side4=>exact b3.out);rintro e w7 ⟨rfl,hb⟩;refine⟨_,rfl,?_⟩;replace a0:=zqm (blk_below (g:=a2) (o:= .cells #[.slice A0_0 l0_0.length c0_0,.slice A0_1 l0_1.length c0_1] 30 (0,0)) zq2 hb);replace HB:=zqm (below_step zq18 hb);clear hb))
  go_ret
  exact⟨zq11,zq18⟩
 ·rw [if_neg c4] at H;have d2:decide (a6<0)=false:=decide_eq_false c4;clear c4;replace H:=Option.bind_eq_some_iff.mp H;obtain⟨a3,e3,H⟩:=H;replace H:(spec_ToldBy.l0 k a1 0 a3 0)=some r:=H;have A8:=zqm e3;clear e3;have H':=zqm H;clear H
  go_enter Try.func63,Try.ntmps63
  go_wp2_with (first|((with_reducible refine gate_dst (N:=2) rfl ?_);refine box_event ?hg (N:=2) ?hd (cs:= #[.slice A0_0 l0_0.length c0_0,.slice A0_1 l0_1.length c0_1]) (t:=30) ?hr ?_;(case hd=>rfl);(case hg=>rfl);(case hr=>first|(go_simp;done)|(go_simp;rfl));intro a2 hg w9 hbox hb;have b7:=zqm (below_step zq0 hb);have a0:=zqm (hbox);have d3:=zqm ((by rw [hg];exact(below_size zq0):w.heap.size≤a2));have a5:=zqm ((by rw [hg];exact(below_size zq0):w.heap.size≤a2));clear HB;have HB:=b7;clear b7 hb hbox hg;have c0:w9.cell? ⟨a2,0,none⟩=some (.slice A0_0 l0_0.length c0_0):=(blk_cell a0.out 0).trans rfl;have c2:w9.cell? ⟨a2,1,none⟩=some (.slice A0_1 l0_1.length c0_1):=(blk_cell a0.out 1).trans rfl;have c3:=blk_frozen a0.out 0;have c5:=blk_frozen a0.out 1)|((with_reducible refine gate_callee (f:=96) rfl ?_);refine goesL_ (some 10) rfl rfl Try.func96 zqk rfl #[.agg #[.slice A0_0 l0_0.length c0_0,.slice A0_1 l0_1.length c0_1],.int .i64 a1] rfl zq1 ?_;(with_reducible refine(spec_NotOf.calls k _ _ l0_0 _ _ l0_1 a1 a6 _ ?side1 ?side2 ?side3 ?side4 A3.out).mono ?_);(case side1=> exact zq45);(case side2=>exact b1.out);(case side3=> exact zq96);(case side4=>exact b3.out);rintro e e4 ⟨rfl,hb⟩;refine⟨_,rfl,?_⟩;replace a0:=zqm (blk_below (g:=a2) (o:= .cells #[.slice A0_0 l0_0.length c0_0,.slice A0_1 l0_1.length c0_1] 30 (0,0)) zq2 hb);replace HB:=zqm (below_step zq18 hb);clear hb;have c7:e4.cell? ⟨a2,0,none⟩=some (.slice A0_0 l0_0.length c0_0):=(blk_cell a0.out 0).trans rfl;have c8:e4.cell? ⟨a2,1,none⟩=some (.slice A0_1 l0_1.length c0_1):=(blk_cell a0.out 1).trans rfl;have d0:=blk_frozen a0.out 0;have d1:=blk_frozen a0.out 1)|((with_reducible refine gate_callee (f:=102) rfl ?_);refine goesL_ (some 13) rfl rfl Try.func102 zqk rfl #[.agg #[.slice A0_0 l0_0.length c0_0,.slice A0_1 l0_1.length c0_1]] rfl zq1 ?_;(with_reducible refine(spec_StatesOf.calls k _ _ l0_0 _ _ l0_1 a3 _ ?side1 ?side2 ?side3 ?side4 A8.out).mono ?_);(case side1=> exact zq45);(case side2=>exact b1.out);(case side3=> exact zq96);(case side4=>exact b3.out);rintro e f9 ⟨d9,rfl,e5,hb⟩;refine⟨_,rfl,?_⟩;have d8:=zqm (Kd.R_lower e5 (below_size zq18));replace a0:=zqm (blk_below (g:=a2) (o:= .cells #[.slice A0_0 l0_0.length c0_0,.slice A0_1 l0_1.length c0_1] 30 (0,0)) zq2 hb);replace HB:=zqm (below_step zq18 hb);clear hb e5))
  go_loopg [5,7] k (fun kq v5 v7 w'=> ∃(a8:Int) (a4:Int),v5= .int .i64 a8∧v7= .int .i64 a4∧Aside0 (spec_ToldBy.l0 kq a1 a8 a3 a4=some r)∧Aside0 (kq≤k)∧Aside0 (Kd.R (Kd.int .i64) 3 w' w.heap.size (fun _=>True) d9 a3)∧Aside0 (w'.heap[a2]? =some (.cells #[(.slice A0_0 l0_0.length c0_0),(.slice A0_1 l0_1.length c0_1)] 30 (0,0)))∧Aside0 (Below w.heap.size w w'))
  case atStart=>exact⟨(0),(0),(by first|rfl|(simp;done)|(simp [*];done)),(by first|rfl|(simp;done)|(simp [*];done)),H',⟨Nat.le_refl _⟩,⟨by(with_reducible repeat(first|apply Kd.R_alloc|apply Kd.R_drewN|apply Kd.R_drew));exact d8.out⟩,⟨zq2⟩,⟨zq18⟩⟩
  case round=>
   clear H';(try clear c1);(try clear p2);(try clear c4);(try clear d2);(try clear c6);(try clear c9);(try clear g0);(try clear c0);(try clear c2);(try clear c7);(try clear c8);(try clear d4);(try clear d5);(try clear c3);(try clear c5);(try clear d0);(try clear d1);(try clear d6);(try clear d7);obtain⟨a8,a4,rfl,rfl,HA,e6,HO_6,a0,HB⟩:=hrel
   cases gk with
   |zero=>exact absurd HA.out (by simp [spec_ToldBy.l0])
   |succ k1=>
    have H:=HA.out;clear HA;simp only [spec_ToldBy.l0] at H
    by_cases a9:a4<(a3.length:Int)
    ·rw [if_pos a9] at H;have e0:decide (a4<(a3.length:Int))=true:=decide_eq_true a9;clear a9
     by_cases b9:0≤a4
     ·rw [if_pos b9] at H;have f2:decide (0≤a4)=true:=decide_eq_true b9;clear b9
      by_cases b8:0≤a1
      ·rw [if_pos b8] at H;have f3:=eq_true b8;have f4:decide (0≤a1)=true:=decide_eq_true b8;clear b8;obtain⟨b4,a7⟩: ∃j_:Int,(shr .i64 (rd a3 a4) a1)=j_:=⟨_,rfl⟩;(replace H:(spec_ToldBy.l0 k1 a1 (wrap64 (a8+(Int.tmod (b4) 2))) a3 (wrap64 (a4+1)))=some r:=by first|(rw [a7] at H;exact H)|(simp only [a7] at H ⊢;exact H));have f0:((rd a3 a4) / 2 ^ min a1.toNat 64)=b4:=a7;have hji17z:a1≤64→((rd a3 a4) / 2 ^ a1.toNat)=b4:=shr_small a7;have H':=zqm H;clear H;obtain⟨f5,f6,e7⟩:=Kd.R_slice HO_6.out;subst e7;have b5:0≤(a4:Int):=zqo;have b6:a4<(a3.length:Int):=zqo;obtain⟨f1,e1,e8⟩:=Kd.at_int (Kd.R_reads' HO_6.out).2.2 a4 b5 b6
       cases e1
       replace b5:=eq_true b5;replace b6:=eq_true b6
       go_wp2
       go_roundg k1
       (case measure=>have:=e6.out;omega);case rel=>exact⟨(wrap64 (a8+(Int.tmod (b4) 2))),(wrap64 (a4+1)),(by first|rfl|(simp;done)|(simp only [← a7] <;> (first|rfl|simp))|(simp [*];done)),(by first|rfl|(simp;done)|(simp [*];done)),H',⟨by have:=e6.out;omega⟩,⟨zq104⟩,⟨zq2⟩,⟨zq18⟩⟩
      ·rw [if_neg b8] at H;exact absurd H (by simp)
     ·rw [if_neg b9] at H;exact absurd H (by simp)
    ·rw [if_neg a9] at H;have e0:decide (a4<(a3.length:Int))=false:=decide_eq_false a9;clear a9;obtain rfl:=Option.some.inj H;obtain⟨f7,f8,e9⟩:=Kd.R_slice HO_6.out;subst e9
     go_wp2
     go_ret
     exact⟨zq11,zq18⟩
end Go.Proofs.Ytdoomkcgdcfmlaa.Print
end
section
namespace Go.Proofs.Ytdoomkcgdcfmlaa.Print
open Go.RowKit Go.Proofs.YtdoomkcgdcfmlaaW.PrintWords Go.Proofs.YtdoomkcgdcfmlaaW.PrintLast Go.Proofs.YtdoomkcgdcfmlaaW.PrintMore
open Oml
theorem ofInt_nat (a : Nat) (ha : a < 18446744073709551616) : (BitVec.ofInt 64 (a : Int)).toNat = a := by
  rw [BitVec.ofInt_natCast, BitVec.toNat_ofNat]; exact Nat.mod_eq_of_lt (by omega)
theorem band_nat (a b : Nat) (ha : a < 4611686018427387904) (hb : b < 4611686018427387904) : Go.bits .and .i64 (a : Int) (b : Int) = ((a &&& b : Nat) : Int) := by
  have hx:a &&& b<2 ^ 62:=Nat.and_lt_two_pow _ (by omega)
  show IntKind.i64.wrap ((BitVec.ofInt 64 (a:Int) &&& BitVec.ofInt 64 (b:Int)).toNat:Int)=_
  rw [BitVec.toNat_and,ofInt_nat a (by omega),ofInt_nat b (by omega),i64_w]
  unfold wrap64;omega
theorem two_pow_le {i : Nat} (h : i ≤ 40) : (2 : Nat) ^ i ≤ 1099511627776 := Nat.pow_le_pow_right (by omega) h
theorem cast_pow (i : Nat) : (2 : Int) ^ i = ((2 ^ i : Nat) : Int) := by rw [Int.natCast_pow]; rfl
theorem shl_nat {i : Nat} (h : i ≤ 40) : shl .i64 1 (i : Int) = ((2 ^ i : Nat) : Int) := by
  unfold shl
  have h2 := two_pow_le h
  rw [Int.toNat_natCast, Nat.min_eq_left (by show i ≤ 64; omega), Int.one_mul, cast_pow, i64_w]
  generalize 2 ^ i = x at h2 ⊢
  unfold wrap64; omega
theorem wshl_nat {i : Nat} (h : i ≤ 40) : IntKind.i64.wrap (2 ^ i) = ((2 ^ i : Nat) : Int) := by
  have := shl_nat h
  unfold shl at this
  rwa [Int.toNat_natCast, Nat.min_eq_left (by show i ≤ 64; omega), Int.one_mul] at this
theorem shr_nat (s : Nat) {i : Nat} (h : i ≤ 64) : shr .i64 (s : Int) (i : Int) = ((s / 2 ^ i : Nat) : Int) := by
  unfold shr
  rw [Int.toNat_natCast, Nat.min_eq_left (by show i ≤ 64; omega), cast_pow]
  rfl
theorem testBit_div (s i : Nat) : s.testBit i = decide (s / 2 ^ i % 2 = 1) := Nat.testBit_eq_decide_div_mod_eq
theorem smod_nat (s : Nat) {i : Nat} (h : i ≤ 64) : Int.tmod (shr .i64 (s : Int) (i : Int)) 2 = if s.testBit i = true then 1 else 0 := by
  rw [shr_nat s h,testBit_div]
  have h1:Int.tmod ((s / 2 ^ i:Nat):Int) ((2:Nat):Int)=((s / 2 ^ i % 2:Nat):Int):=by first|exact(Int.ofNat_tmod _ 2).symm|rfl
  rw [show ((2:Nat):Int)=2 from rfl] at h1
  rw [h1]
  by_cases e:s / 2 ^ i % 2=1
  · rw [e];simp
  · have : s / 2 ^ i % 2 = 0 := by omega
    rw [this];simp
end Go.Proofs.Ytdoomkcgdcfmlaa.Print
end
section
namespace Go.Proofs.Ytdoomkcgdcfmlaa.Print
open Go.RowKit Go.Proofs.YtdoomkcgdcfmlaaW.PrintWords Go.Proofs.YtdoomkcgdcfmlaaW.PrintLast Go.Proofs.YtdoomkcgdcfmlaaW.PrintMore
def impl_has.f (a0 : Int) (a1 : Int) : Option (Bool) := if 0 ≤ a1 then (some ((Go.bits .and .i64 (shr .i64 a0 a1) 1) == 1)) else (none)
set_option maxHeartbeats 8000000 in
set_option maxRecDepth 100000 in
theorem impl_has.calls (a0 : Int) (a1 : Int) (r : Bool) (w : World) (h : impl_has.f a0 a1 = some r) :
  Calls Try.prog 99 #[.int .i64 a0, .int .i64 a1] w fun e w' => e = .returned (.bool r) ∧ Drawn0 w w' := by
 have H : (if 0 ≤ a1 then (some ((Go.bits .and .i64 (shr .i64 a0 a1) 1) == 1)) else (none)) = some r := h
 clear h
 by_cases c3 : 0 ≤ a1
 ·rw [if_pos c3] at H
  have c3b0 := eq_true c3
  have c3b1 : decide (0 ≤ a1) = true := decide_eq_true c3
  clear c3
  obtain ⟨ji4, hji4⟩ : ∃ j_ : Int, (shr .i64 a0 a1) = j_ := ⟨_, rfl⟩
  replace H : (some ((Go.bits .and .i64 (ji4) 1) == 1)) = some r := by first | (rw [hji4] at H; exact H) | (simp only [hji4] at H ⊢; exact H)
  have hji4_ : (a0 / 2 ^ min a1.toNat 64) = ji4 := hji4
  have hji4z : a1 ≤ 64 → (a0 / 2 ^ a1.toNat) = ji4 := shr_small hji4
  obtain rfl := Option.some.inj H
  go_enter Try.func99, Try.ntmps99
  go_wp2
  go_ret
  exact ⟨by first | rfl | (simp; done) | (simp only [← hji4] <;> (first | rfl | simp)) | (simp [*]; done), by repeat (first | exact Drawn0.refl _ | apply Drawn0.step)⟩
 ·rw [if_neg c3] at H
  exact absurd H (by simp)
end Go.Proofs.Ytdoomkcgdcfmlaa.Print
end
section
namespace Go.Proofs.Ytdoomkcgdcfmlaa.Print
open Go.RowKit Go.Proofs.YtdoomkcgdcfmlaaW.PrintWords Go.Proofs.YtdoomkcgdcfmlaaW.PrintLast Go.Proofs.YtdoomkcgdcfmlaaW.PrintMore
open Oml
theorem has_nat (s : Nat) (hs : s < 4611686018427387904) {i : Nat} (h : i ≤ 64) : impl_has.f (s : Int) (i : Int) = some (s.testBit i) := by
  unfold impl_has.f
  rw [if_pos (by omega),shr_nat s h,show (1:Int)=((1:Nat):Int) from rfl,band_nat _ _ (Nat.lt_of_le_of_lt (Nat.div_le_self _ _) hs) (by omega),Nat.and_one_is_mod,testBit_div]
  have h2:s / 2 ^ i % 2=0∨s / 2 ^ i % 2=1:=by omega
  rcases h2 with h2|h2 <;> rw [h2] <;> rfl
theorem has_in (s : Nat) (hs : s < 4611686018427387904) {i : Int} (h0 : 0 ≤ i) (h : i ≤ 64) : impl_has.f (s : Int) i = some (s.testBit i.toNat) := by
  obtain ⟨x, rfl⟩ : ∃ x : Nat, i = x := ⟨i.toNat, by omega⟩
  rw [Int.toNat_natCast]
  exact has_nat s hs (by omega)
def stT (U : List (List Int)) (N : List Int) (s : Nat) (a b : Int) : Bool :=
  if s.testBit a.toNat=s.testBit (notI N a).toNat then false else if leI U a (notI N b)=false then true
  else !(s.testBit a.toNat && s.testBit b.toNat) && (s.testBit (orI U a b).toNat==(s.testBit a.toNat||s.testBit b.toNat))
def stB (U : List (List Int)) (N : List Int) (s : Nat) : Bool := s.testBit (yesI U N).toNat && allN U.length fun a => allN U.length fun b => stT U N s a b
def isSt (U : List (List Int)) (N : List Int) (x : Int) : Bool := decide (0 ≤ x) && (decide (x < ((2 ^ U.length : Nat) : Int)) && stB U N x.toNat)
theorem has_calls (s : Nat) (hs : s < 4611686018427387904) {i : Int} (h0 : 0 ≤ i) (h : i ≤ 64) (w : World) : Calls Try.prog 99 #[.int .i64 (s : Int), .int .i64 i] w fun e w' => e = .returned (.bool (s.testBit i.toNat)) ∧ Drawn0 w w' :=
  impl_has.calls _ _ _ _ (has_in s hs h0 h)
set_option maxHeartbeats 4000000 in
set_option maxRecDepth 100000 in
theorem st_c1 (g : Nat) (U : List (List Int)) (N : List Int) (v : Adr) (w : World) (L : Logic U N) (hV : View w g U N v) (gS gG : Nat) (s : Nat) (hs : s < 4611686018427387904) (a b : Int) (ia : In U a) (ib : In U b) (hS : w.heap[gS]? = some (.cells #[.int .i64 (s : Int)] 3 (0, 0))) (hG : w.heap[gG]? = some (.cells #[.pointer (some ⟨g, 0, none⟩)] 64 (0, 0))) :
    Calls Try.prog 130 #[.int .i64 a,.int .i64 b,.pointer (some ⟨gS,0,none⟩),.pointer (some ⟨gG,0,none⟩)] w fun e w'=>e= .returned (.bool (stT U N s a b))∧Below w.heap.size w w':=by
  have hu70:=Try.underlying70
  have HV:=Aside0.mk hV
  have HLg:=Aside0.mk L
  have Ia:=Aside0.mk ia
  have Ib:=Aside0.mk ib
  have hsm:=L.small
  have small: ∀i,In U i→0≤i∧i≤64:=fun i hi=>⟨hi.1,by have:=hi.2;omega⟩
  have hx_:=fun w=>has_calls s hs (small a ia).1 (small a ia).2 w
  have hy_:=fun w=>has_calls s hs (small b ib).1 (small b ib).2 w
  have hn_:=fun w=>has_calls s hs (small _ (L.in_not ia)).1 (small _ (L.in_not ia)).2 w
  have hz_:=fun w=>has_calls s hs (small _ (L.in_or ia ib)).1 (small _ (L.in_or ia ib)).2 w
  have v1:=L.le_val ia (L.in_not ib)
  unfold stT
  generalize s.testBit a.toNat=x at hx_ ⊢
  generalize s.testBit b.toNat=y at hy_ ⊢
  generalize s.testBit (notI N a).toNat=n at hn_ ⊢
  generalize s.testBit (orI U a b).toNat=z at hz_ ⊢
  generalize leI U a (notI N b)=le at v1 ⊢
  have HX:=Aside0.mk hx_
  have HY:=Aside0.mk hy_
  have HN:=Aside0.mk hn_
  have HZ:=Aside0.mk hz_
  have x0:w.cell? ⟨gS,0,none⟩=some (.int .i64 (s:Int)):=(blk_cell hS 0).trans rfl
  have x1:w.cell? ⟨gG,0,none⟩=some (.pointer (some ⟨g,0,none⟩)):=(blk_cell hG 0).trans rfl
  clear hV L ia ib hx_ hy_ hn_ hz_ hS hG hsm small
  have b0_:=eq_true Ia.out.1;have c0_:=eq_true Ia.out.2
  have hf3_:=HV.out.f3
  have n2_:=HV.out.n a Ia.out
  have b3_:=eq_true Ib.out.1;have c3_:=eq_true Ib.out.2
  have n4_:=HV.out.n b Ib.out
  have IN1_:=Aside0.mk (HLg.out.in_not Ib.out)
  have b5_:=eq_true IN1_.out.1;have c5_:=eq_true IN1_.out.2
  have hf0_:=HV.out.f0
  have r7_:=HV.out.u a Ia.out
  have U2_:=Aside0.mk True.intro
  have hf2_:=HV.out.f2
  have r10_:=HV.out.j a Ia.out
  have s11_:=HV.out.j2 a b Ia.out Ib.out
  have u2_:w.cell? ((v.rU a.toNat).add (notI N b).toNat)=some (.int .i64 (if le=true then 1 else 0)):=by rw [← v1];exact HV.out.u2 a (notI N b) Ia.out (HLg.out.in_not Ib.out)
  clear v1 U2_
  have key: ∀(P:Prop),P→P:=fun _ h=>h
  by_cases hxn:x=n
  · subst hxn
    have hd:(x==x)=true:=by cases x <;> rfl
    rw [if_pos rfl]
    clear u2_
    go_enter Try.func130,Try.ntmps130
    go_wp2_with fail
    go_quiet ((go_at_call 99;first|(with_reducible exact Drawn0.quiet2 (HX.out _))|(with_reducible exact Drawn0.quiet2 (HY.out _))|(with_reducible exact Drawn0.quiet2 (HN.out _))|(with_reducible exact Drawn0.quiet2 (HZ.out _))|(with_reducible exact Drawn0.quiet (HX.out _))|(with_reducible exact Drawn0.quiet (HY.out _))|(with_reducible exact Drawn0.quiet (HN.out _))|(with_reducible exact Drawn0.quiet (HZ.out _))))
    go_wp2
    go_ret
    exact⟨rfl,zq336⟩
  · have hd : (x == n) = false := by rw [beq_eq_false_iff_ne]; exact hxn
    rw [if_neg hxn]
    cases le with
    | false =>
      rw [if_neg (by simp)] at u2_
      rw [if_pos rfl]
      go_enter Try.func130,Try.ntmps130
      go_wp2_with fail
      go_quiet ((go_at_call 99;first|(with_reducible exact Drawn0.quiet2 (HX.out _))|(with_reducible exact Drawn0.quiet2 (HY.out _))|(with_reducible exact Drawn0.quiet2 (HN.out _))|(with_reducible exact Drawn0.quiet2 (HZ.out _))|(with_reducible exact Drawn0.quiet (HX.out _))|(with_reducible exact Drawn0.quiet (HY.out _))|(with_reducible exact Drawn0.quiet (HN.out _))|(with_reducible exact Drawn0.quiet (HZ.out _))))
      go_wp2
      go_quiet (fail)
      go_wp2
      go_ret
      exact⟨rfl,zq336⟩
    | true =>
      rw [if_pos rfl] at u2_
      rw [if_neg (by simp)]
      clear hxn
      cases x <;> cases y
      all_goals
        go_enter Try.func130,Try.ntmps130
        go_wp2_with fail
        go_quiet ((go_at_call 99;first|(with_reducible exact Drawn0.quiet2 (HX.out _))|(with_reducible exact Drawn0.quiet2 (HY.out _))|(with_reducible exact Drawn0.quiet2 (HN.out _))|(with_reducible exact Drawn0.quiet2 (HZ.out _))|(with_reducible exact Drawn0.quiet (HX.out _))|(with_reducible exact Drawn0.quiet (HY.out _))|(with_reducible exact Drawn0.quiet (HN.out _))|(with_reducible exact Drawn0.quiet (HZ.out _))))
        go_wp2
        go_quiet (fail)
        go_wp2
        go_quiet ((go_at_call 99;first|(with_reducible exact Drawn0.quiet2 (HX.out _))|(with_reducible exact Drawn0.quiet2 (HY.out _))|(with_reducible exact Drawn0.quiet2 (HN.out _))|(with_reducible exact Drawn0.quiet2 (HZ.out _))|(with_reducible exact Drawn0.quiet (HX.out _))|(with_reducible exact Drawn0.quiet (HY.out _))|(with_reducible exact Drawn0.quiet (HN.out _))|(with_reducible exact Drawn0.quiet (HZ.out _))))
        go_wp2
        go_quiet ((go_at_call 99;first|(with_reducible exact Drawn0.quiet2 (HX.out _))|(with_reducible exact Drawn0.quiet2 (HY.out _))|(with_reducible exact Drawn0.quiet2 (HN.out _))|(with_reducible exact Drawn0.quiet2 (HZ.out _))|(with_reducible exact Drawn0.quiet (HX.out _))|(with_reducible exact Drawn0.quiet (HY.out _))|(with_reducible exact Drawn0.quiet (HN.out _))|(with_reducible exact Drawn0.quiet (HZ.out _))))
        go_wp2
        go_ret
        exact⟨by first|rfl|(cases z <;> rfl),zq336⟩
set_option maxHeartbeats 4000000 in
set_option maxRecDepth 100000 in
theorem isState_calls (g : Nat) (U : List (List Int)) (N : List Int) (v : Adr) (x : Int) (w : World) (L : Logic U N) (hV : View w g U N v) :
    Calls Try.prog 104 #[.pointer (some ⟨g,0,none⟩),.int .i64 x] w fun e w'=>e= .returned (.bool (isSt U N x))∧Below w.heap.size w w':=by
  have hu70:=Try.underlying70
  have HV:=Aside0.mk hV
  have HLg:=Aside0.mk L
  have HSM:=Aside0.mk L.small
  obtain⟨mv,hmv⟩: ∃mv:Int,mv=((2 ^ U.length:Nat):Int):=⟨_,rfl⟩
  have e1_:wrap64 (2 ^ min U.length 64)=mv:=by rw [Nat.min_eq_left (show U.length≤64 by have:=L.small;omega),← i64_w,wshl_nat (by have:=L.small;omega),hmv]
  have e2_:IntKind.i64.wrap (2 ^ min U.length 64)=mv:=by rw [i64_w];exact e1_
  have hM2:2 ^ U.length≤4096:=Nat.pow_le_pow_right (by omega) L.small
  have HM2:=Aside0.mk hM2
  have HMV:=Aside0.mk hmv
  unfold isSt
  rw [← hmv]
  by_cases h0:x<0
  · have d0 : decide (x < 0) = true := decide_eq_true h0
    have d1:decide (0≤x)=false:=decide_eq_false (by omega)
    rw [d1]
    clear hV L hmv h0 d1 hM2
    go_enter Try.func104,Try.ntmps104
    go_wp2_with (first|((with_reducible refine gate_dst (N:=2) rfl ?_);refine box_event ?hg (N:=2) ?hd (cs:= #[.pointer (some ⟨g,0,none⟩)]) (t:=64) ?hr ?_;(case hd=>rfl);(case hg=>rfl);(case hr=>first|(go_simp;done)|(go_simp;rfl));intro gG hg_ w1 hbox hb;have HXG:=Aside0.mk hbox;have HB1:=Aside0.mk hb;clear hbox hb hg_)|((with_reducible refine gate_dst (N:=3) rfl ?_);refine box_event ?hg (N:=3) ?hd (cs:= #[.int .i64 x]) (t:=3) ?hr ?_;(case hd=>rfl);(case hg=>rfl);(case hr=>first|(go_simp;done)|(go_simp;rfl));intro gS hg_ w2 hbox hb;have HXS:=Aside0.mk hbox;have HB2:=Aside0.mk (below_step HB1.out hb);have HXG2:=Aside0.mk (blk_below HXG.out hb);have x0:w2.cell? ⟨gG,0,none⟩=some (.pointer (some ⟨g,0,none⟩)):=(blk_cell HXG2.out 0).trans rfl;have x1:w2.cell? ⟨gS,0,none⟩=some (.int .i64 x):=(blk_cell hbox 0).trans rfl;have hf0:=(HV.out.below HB2.out).f0;have hf5:=(HV.out.below HB2.out).f5;clear HXG HB1 hbox hb hg_))
    go_quiet (fail)
    go_wp2
    go_ret
    exact⟨rfl,zq303⟩
  · have d0 : decide (x < 0) = false := decide_eq_false h0
    have d1:decide (0≤x)=true:=decide_eq_true (by omega)
    rw [d1]
    by_cases h1:mv≤x
    · have d2 : decide (mv ≤ x) = true := decide_eq_true h1
      have d3:decide (x<mv)=false:=decide_eq_false (by omega)
      rw [d3]
      clear hV L hmv h0 h1 d1 d3 hM2
      go_enter Try.func104,Try.ntmps104
      go_wp2_with (first|((with_reducible refine gate_dst (N:=2) rfl ?_);refine box_event ?hg (N:=2) ?hd (cs:= #[.pointer (some ⟨g,0,none⟩)]) (t:=64) ?hr ?_;(case hd=>rfl);(case hg=>rfl);(case hr=>first|(go_simp;done)|(go_simp;rfl));intro gG hg_ w1 hbox hb;have HXG:=Aside0.mk hbox;have HB1:=Aside0.mk hb;clear hbox hb hg_)|((with_reducible refine gate_dst (N:=3) rfl ?_);refine box_event ?hg (N:=3) ?hd (cs:= #[.int .i64 x]) (t:=3) ?hr ?_;(case hd=>rfl);(case hg=>rfl);(case hr=>first|(go_simp;done)|(go_simp;rfl));intro gS hg_ w2 hbox hb;have HXS:=Aside0.mk hbox;have HB2:=Aside0.mk (below_step HB1.out hb);have HXG2:=Aside0.mk (blk_below HXG.out hb);have x0:w2.cell? ⟨gG,0,none⟩=some (.pointer (some ⟨g,0,none⟩)):=(blk_cell HXG2.out 0).trans rfl;have x1:w2.cell? ⟨gS,0,none⟩=some (.int .i64 x):=(blk_cell hbox 0).trans rfl;have hf0:=(HV.out.below HB2.out).f0;have hf5:=(HV.out.below HB2.out).f5;clear HXG HB1 hbox hb hg_))
      go_quiet (fail)
      go_wp2
      go_ret
      exact⟨rfl,zq303⟩
    · have d2 : decide (mv ≤ x) = false := decide_eq_false h1
      have d3:decide (x<mv)=true:=decide_eq_true (by omega)
      rw [d3]
      obtain⟨s,hsx⟩: ∃s:Nat,x=(s:Int):=⟨x.toNat,by omega⟩
      have hs:s<4611686018427387904:=by omega
      rw [show x.toNat=s by omega,Bool.true_and,Bool.true_and]
      unfold stB
      have hy_:=fun w=>has_calls s hs (i:=yesI U N) L.in_yes.1 (by have:=L.in_yes.2;have:=L.small;omega) w
      rw [← hsx] at hy_
      have HS:=Aside0.mk hs
      have HSX:=Aside0.mk hsx
      generalize s.testBit (yesI U N).toNat=y at hy_ ⊢
      have HX:=Aside0.mk hy_
      cases y with
      | false =>
        rw [Bool.false_and]
        clear hV L hmv h0 h1 d1 d3 hM2 hs hy_ hsx
        go_enter Try.func104,Try.ntmps104
        go_wp2_with (first|((with_reducible refine gate_dst (N:=2) rfl ?_);refine box_event ?hg (N:=2) ?hd (cs:= #[.pointer (some ⟨g,0,none⟩)]) (t:=64) ?hr ?_;(case hd=>rfl);(case hg=>rfl);(case hr=>first|(go_simp;done)|(go_simp;rfl));intro gG hg_ w1 hbox hb;have HXG:=Aside0.mk hbox;have HB1:=Aside0.mk hb;clear hbox hb hg_)|((with_reducible refine gate_dst (N:=3) rfl ?_);refine box_event ?hg (N:=3) ?hd (cs:= #[.int .i64 x]) (t:=3) ?hr ?_;(case hd=>rfl);(case hg=>rfl);(case hr=>first|(go_simp;done)|(go_simp;rfl));intro gS hg_ w2 hbox hb;have HXS:=Aside0.mk hbox;have HB2:=Aside0.mk (below_step HB1.out hb);have HXG2:=Aside0.mk (blk_below HXG.out hb);have x0:w2.cell? ⟨gG,0,none⟩=some (.pointer (some ⟨g,0,none⟩)):=(blk_cell HXG2.out 0).trans rfl;have x1:w2.cell? ⟨gS,0,none⟩=some (.int .i64 x):=(blk_cell hbox 0).trans rfl;have hf0:=(HV.out.below HB2.out).f0;have hf5:=(HV.out.below HB2.out).f5;clear HXG HB1 hbox hb hg_))
        go_quiet ((go_at_call 99;first|(with_reducible exact Drawn0.quiet (HX.out _))|(with_reducible exact Drawn0.quiet2 (HX.out _))))
        go_wp2
        go_ret
        exact⟨rfl,zq303⟩
      | true =>
        rw [Bool.true_and]
        clear hV L hmv h0 h1 d1 d3 hM2 hs hy_ hsx
        go_enter Try.func104,Try.ntmps104
        go_wp2_with (first|((with_reducible refine gate_dst (N:=2) rfl ?_);refine box_event ?hg (N:=2) ?hd (cs:= #[.pointer (some ⟨g,0,none⟩)]) (t:=64) ?hr ?_;(case hd=>rfl);(case hg=>rfl);(case hr=>first|(go_simp;done)|(go_simp;rfl));intro gG hg_ w1 hbox hb;have HXG:=Aside0.mk hbox;have HB1:=Aside0.mk hb;clear hbox hb hg_)|((with_reducible refine gate_dst (N:=3) rfl ?_);refine box_event ?hg (N:=3) ?hd (cs:= #[.int .i64 x]) (t:=3) ?hr ?_;(case hd=>rfl);(case hg=>rfl);(case hr=>first|(go_simp;done)|(go_simp;rfl));intro gS hg_ w2 hbox hb;have HXS:=Aside0.mk hbox;have HB2:=Aside0.mk (below_step HB1.out hb);have HXG2:=Aside0.mk (blk_below HXG.out hb);have x0:w2.cell? ⟨gG,0,none⟩=some (.pointer (some ⟨g,0,none⟩)):=(blk_cell HXG2.out 0).trans rfl;have x1:w2.cell? ⟨gS,0,none⟩=some (.int .i64 x):=(blk_cell hbox 0).trans rfl;have hf0:=(HV.out.below HB2.out).f0;have hf5:=(HV.out.below HB2.out).f5;clear HXG HB1 hbox hb hg_))
        go_quiet ((go_at_call 99;first|(with_reducible exact Drawn0.quiet (HX.out _))|(with_reducible exact Drawn0.quiet2 (HX.out _))))
        go_wp2_with (go_at_call 87;(with_reducible refine(every_pure g U N v _ HSM.out ?sV 130 _ #[.pointer (some ⟨gS,0,none⟩),.pointer (some ⟨gG,0,none⟩)] Try.func130 (by kernel_rfl) rfl (fun a b=>stT U N s a b) ?sT).mono ?_);(case sV=>exact(HV.out.below zq303));(case sT=>exact fun a b ha hb W hW=>st_c1 g U N v W HLg.out ((HV.out.below zq303).below hW) gS gG s HS.out a b ⟨by omega,by omega⟩ ⟨by omega,by omega⟩ (by rw [← HSX.out];exact blk_below (blk_drewN HXS.out _) hW) (blk_below (blk_drewN HXG2.out _) hW));rintro e w3 ⟨rfl,hb⟩;have HB3:=Aside0.mk (below_step zq303 hb);clear hb)
        go_ret
        exact⟨rfl,zq284⟩
def stN (U : List (List Int)) (N : List Int) : List Nat := (List.range (2 ^ U.length)).filter fun (s : Nat) => isSt U N (s : Int)
def stL (U : List (List Int)) (N : List Int) : List Int := filI (2 ^ U.length) fun (s : Nat) => isSt U N (s : Int)
set_option maxHeartbeats 4000000 in
set_option maxRecDepth 100000 in
theorem states_calls (g : Nat) (U : List (List Int)) (N : List Int) (v : Adr) (w : World) (L : Logic U N) (hV : View w g U N v) :
    Calls Try.prog 107 #[.pointer (some ⟨g,0,none⟩)] w fun e w'=> ∃v0,e= .returned v0∧Kd.R (Kd.int .i64) 3 w' w.heap.size (fun _=>True) v0 (stL U N)∧Below w.heap.size w w':=by
  have hu70:=Try.underlying70
  have HV:=Aside0.mk hV
  have HLg:=Aside0.mk L
  have HSM:=Aside0.mk L.small
  obtain⟨mv,hmv⟩: ∃mv:Int,mv=((2 ^ U.length:Nat):Int):=⟨_,rfl⟩
  have e1_:wrap64 (2 ^ min U.length 64)=mv:=by rw [Nat.min_eq_left (show U.length≤64 by have:=L.small;omega),← i64_w,wshl_nat (by have:=L.small;omega),hmv]
  have e2_:IntKind.i64.wrap (2 ^ min U.length 64)=mv:=by rw [i64_w];exact e1_
  have hM2:2 ^ U.length≤4096:=Nat.pow_le_pow_right (by omega) L.small
  have HM2:=Aside0.mk hM2
  have HMV:=Aside0.mk hmv
  obtain⟨M,hM⟩: ∃M:Nat,M=2 ^ U.length:=⟨_,rfl⟩
  have HM:=Aside0.mk hM
  have HMV2:=Aside0.mk (show mv=(M:Int) by rw [hmv,hM])
  have HM3:=Aside0.mk (show M≤4096 by omega)
  clear hV L hmv hM2 hM
  go_enter Try.func107,Try.ntmps107
  go_wp2_with ((with_reducible refine gate_dst (N:=5) rfl ?_);refine Kd.R_lit (Kd.int .i64) _ 3 ?hg (N:=5) ?hd (xs:=([]:List Int)) (inner:= []) (ok:=fun _=>True) (okp:=fun _=>True) ?hr ?hp (fun _ hk=>hk) trivial (Below.refl _ _) (Nat.le_refl _) (by simp) ?_;(case hd=>rfl);(case hg=>rfl);(case hr=>first|(go_simp;done)|(go_simp;rfl));(case hp=>exact(Reps.none _ _));intro v0 w3 ho hb hg_ hnew_;clear hg_ hnew_;have HO3:=Aside0.mk ho;have HB3:=Aside0.mk hb;have hf0:=(HV.out.below hb).f0;clear ho hb)
  go_loopg [12,3] (M+1) (fun kq v12 v3 W=> ∃s:Nat,v12= .int .i64 s∧Aside0 (s+kq=M+1)∧Aside0 (s≤M)∧Aside0 (Kd.R (Kd.int .i64) 3 W w.heap.size (fun _=>True) v3 (filI s fun(s:Nat)=>isSt U N (s:Int)))∧Aside0 (Below w.heap.size w W))
  case atStart=>exact⟨0,by first|rfl|simp,⟨by omega⟩,⟨by omega⟩,HO3,HB3⟩
  case round =>
    clear hf0
    obtain⟨s,rfl,HK,HK2,HOr,HBr⟩:=hrel
    cases gk with
    |zero=>exact absurd HK.out (by have:=HK2.out;omega)
    |succ kn=>
    by_cases hlt:s<M
    · have hlt' : decide ((s : Int) < mv) = true := decide_eq_true (by rw [HMV2.out]; omega)
      have HLT:=Aside0.mk hlt
      clear hlt
      cases ht:isSt U N (s:Int) with
      | true =>
        have HT:=Aside0.mk ht
        clear ht
        go_wp2_with (first|(go_at_call 104;(with_reducible refine(isState_calls g U N v (s:Int) _ HLg.out (HV.out.below HBr.out)).mono ?_);rintro e w5 ⟨he,hb⟩;rw [HT.out] at he;subst he;have HO5:=Aside0.mk (Kd.R_below HOr.out hb);have HB5:=Aside0.mk (below_step HBr.out hb);clear HOr HBr hb)|((with_reducible refine gate_builtin (b:= .append) (xs:= #[.tmp 18,.tmp 20]) rfl ?_);at_builtin;refine Kd.R_append (Kd.int .i64) (w0:=w) w.heap.size rfl (.tmp 18) (.tmp 20) 28 3 (.int .i64 0) 8 rfl Try.underlying28 infoInt rfl (by decide) (by omega) u3 (filI s fun(s:Nat)=>isSt U N (s:Int)) (s:Int) [.int .i64 s] (fun _=>True) (fun _=>False) rfl rfl ?aP (fun _ hk=>hk.elim) ?aF ?aO ?aB ?aS ?aL ?_;(case aP=>exact rfl);(case aB=>exact HB5.out);(case aF=>exact(fun _ _=>trivial));(case aO=>exact HO5.out);(case aS=>exact(below_size HB5.out));(case aL=>have:=filI_length s (fun(s:Nat)=>isSt U N (s:Int));have:=HLT.out;have:=HM3.out;omega);intro v3n w21 ho hb hg hat;have HB6:=Aside0.mk hb;have HO6:=Aside0.mk ho;clear ho hb hg hat HO5 HB5))
        go_roundg kn
        case measure=>omega
        case rel=>exact⟨s+1,zq404,⟨by have:=HK.out;omega⟩,⟨by have:=HLT.out;omega⟩,⟨by rw [filI_succ,if_pos HT.out];exact HO6.out⟩,HB6⟩
      | false =>
        have HT:=Aside0.mk ht
        clear ht
        go_wp2_with (go_at_call 104;(with_reducible refine(isState_calls g U N v (s:Int) _ HLg.out (HV.out.below HBr.out)).mono ?_);rintro e w5 ⟨he,hb⟩;rw [HT.out] at he;subst he;have HO5:=Aside0.mk (Kd.R_below HOr.out hb);have HB5:=Aside0.mk (below_step HBr.out hb);clear HOr HBr hb)
        go_roundg kn
        case measure=>omega
        case rel=>exact⟨s+1,zq404,⟨by have:=HK.out;omega⟩,⟨by have:=HLT.out;omega⟩,⟨by rw [filI_succ,if_neg (by rw [HT.out];simp)];exact HO5.out⟩,HB5⟩
    · have hlt' : decide ((s : Int) < mv) = false := decide_eq_false (by rw [HMV2.out]; omega)
      obtain rfl:s=M:=by have:=HK2.out;omega
      clear hlt
      go_wp2_with fail
      go_ret
      exact⟨_,rfl,by have h:=HOr.out;rw [HM.out] at h;exact h,by repeat(first|exact HBr.out|apply pw_below_drewN|apply below_drew1)⟩
def impl_StatesOf.f (l0_0 : List (List Int)) (l0_1 : List Int) : Option (List Int) := some (if logicB l0_0 l0_1 = true then stL l0_0 l0_1 else [])
set_option maxHeartbeats 4000000 in
set_option maxRecDepth 100000 in
theorem impl_StatesOf.calls (A0_0 : Option Addr) (c0_0 : Nat) (l0_0 : List (List Int)) (A0_1 : Option Addr) (c0_1 : Nat) (l0_1 : List Int) (r : List Int) (w : World) (hr0_0 : Kd.C (Kd.slice 3 (Kd.int .i64)) w A0_0 l0_0.length l0_0) (hc0_0 : l0_0.length ≤ c0_0) (hr0_1 : Kd.C (Kd.int .i64) w A0_1 l0_1.length l0_1) (hc0_1 : l0_1.length ≤ c0_1) (h : impl_StatesOf.f l0_0 l0_1 = some r) :
    Calls Try.prog 64 #[.agg #[.slice A0_0 l0_0.length c0_0,.slice A0_1 l0_1.length c0_1]] w fun e w'=> ∃v0_:Value,e= .returned (v0_)∧Kd.R (Kd.int .i64) 3 w' w.heap.size (fun _=>True) v0_ r∧Below w.heap.size w w':=by
  obtain⟨k,hF⟩:=told_facts l0_0
  have hu30:=Try.underlying30
  have hu70:=Try.underlying70
  have HF:=Aside0.mk hF
  have HR0:=Aside0.mk hr0_0
  have HC0:=Aside0.mk hc0_0
  have HR1:=Aside0.mk hr0_1
  have HC1:=Aside0.mk hc0_1
  simp only [impl_StatesOf.f,Option.some.injEq] at h
  clear hr0_0 hc0_0 hr0_1 hc0_1 hF
  cases hL:logicB l0_0 l0_1 with
  | false =>
    rw [hL] at h
    have hr_: []=r:=by simpa using h
    subst hr_
    have HLB:=Aside0.mk hL
    clear h hL
    go_enter Try.func64,Try.ntmps64
    go_wp2_with (first|((with_reducible refine gate_dst (N:=1) rfl ?_);refine box_event ?hg (N:=1) ?hd (cs:= #[.slice A0_0 l0_0.length c0_0,.slice A0_1 l0_1.length c0_1]) (t:=30) ?hr ?_;(case hd=>rfl);(case hg=>rfl);(case hr=>first|(go_simp;done)|(go_simp;rfl));intro gb hg_ w1 hbox hb;have HB:=Aside0.mk hb;have hx0:w1.cell? ⟨gb,0,none⟩=some (.slice A0_0 l0_0.length c0_0):=(blk_cell hbox 0).trans rfl;have hx1:w1.cell? ⟨gb,1,none⟩=some (.slice A0_1 l0_1.length c0_1):=(blk_cell hbox 1).trans rfl;have HX:=Aside0.mk hbox;clear hbox hb hg_)|(go_at_call 77;(with_reducible refine(told_n k _ _ l0_0 _ _ l0_1 _ ?s1 ?s2 ?s3 ?s4 HF.out HLB.out).mono ?_);(case s1=>exact Kd.C_below HR0.out HB.out);(case s2=>exact HC0.out);(case s3=>exact Kd.C_below HR1.out HB.out);(case s4=>exact HC1.out);rintro e w2 ⟨rfl,hb⟩;have HB2:=Aside0.mk (below_step HB.out hb);clear hb hx0 hx1 HX HB))
    go_ret
    exact⟨_,rfl,Kd.R_nil _ _ _ _ _,zq116⟩
  | true =>
    rw [hL] at h
    have hr_:stL l0_0 l0_1=r:=by simpa using h
    subst hr_
    have HLB:=Aside0.mk hL
    have HLg:=Aside0.mk (logicB_iff.1 hL)
    have HSM:=Aside0.mk (logicB_iff.1 hL).small
    clear h hL
    go_enter Try.func64,Try.ntmps64
    go_wp2_with (first|((with_reducible refine gate_dst (N:=1) rfl ?_);refine box_event ?hg (N:=1) ?hd (cs:= #[.slice A0_0 l0_0.length c0_0,.slice A0_1 l0_1.length c0_1]) (t:=30) ?hr ?_;(case hd=>rfl);(case hg=>rfl);(case hr=>first|(go_simp;done)|(go_simp;rfl));intro gb hg_ w1 hbox hb;have HB:=Aside0.mk hb;have hx0:w1.cell? ⟨gb,0,none⟩=some (.slice A0_0 l0_0.length c0_0):=(blk_cell hbox 0).trans rfl;have hx1:w1.cell? ⟨gb,1,none⟩=some (.slice A0_1 l0_1.length c0_1):=(blk_cell hbox 1).trans rfl;have HX:=Aside0.mk hbox;clear hbox hb hg_)|(go_at_call 77;(with_reducible refine(told_y k _ _ l0_0 _ _ l0_1 _ ?s1 ?s2 ?s3 ?s4 HF.out HLB.out).mono ?_);(case s1=>exact Kd.C_below HR0.out HB.out);(case s2=>exact HC0.out);(case s3=>exact Kd.C_below HR1.out HB.out);(case s4=>exact HC1.out);rintro e w2 ⟨g,v,rfl,hv,hge,hb⟩;have HB2:=Aside0.mk (below_step HB.out hb);have HV:=Aside0.mk hv;clear hv hge hb hx0 hx1 HX HB)|(go_at_call 107;(with_reducible refine(states_calls g l0_0 l0_1 v _ HLg.out HV.out).mono ?_);rintro e w3 ⟨vs,rfl,ho,hb⟩;have HO3:=Aside0.mk (Kd.R_lower ho (below_size HB2.out));have HB3:=Aside0.mk (below_step HB2.out hb);clear ho hb))
    go_ret
    exact⟨_,rfl,HO3.out,zq284⟩
def impl_ToldBy.f (l0_0 : List (List Int)) (l0_1 : List Int) (a1 : Int) : Option (Int) := some (if logicB l0_0 l0_1 = true then (if [a1].all (inR l0_0.length) = true then (((stN l0_0 l0_1).countP fun s => s.testBit a1.toNat : Nat) : Int) else -1) else -1)
set_option maxHeartbeats 4000000 in
set_option maxRecDepth 100000 in
theorem impl_ToldBy.calls (A0_0 : Option Addr) (c0_0 : Nat) (l0_0 : List (List Int)) (A0_1 : Option Addr) (c0_1 : Nat) (l0_1 : List Int) (a1 : Int) (r : Int) (w : World) (hr0_0 : Kd.C (Kd.slice 3 (Kd.int .i64)) w A0_0 l0_0.length l0_0) (hc0_0 : l0_0.length ≤ c0_0) (hr0_1 : Kd.C (Kd.int .i64) w A0_1 l0_1.length l0_1) (hc0_1 : l0_1.length ≤ c0_1) (h : impl_ToldBy.f l0_0 l0_1 a1 = some r) :
    Calls Try.prog 62 #[.agg #[.slice A0_0 l0_0.length c0_0,.slice A0_1 l0_1.length c0_1],.int .i64 a1] w fun e w'=>e= .returned (.int .i64 r)∧Below w.heap.size w w':=by
  obtain⟨k,hF⟩:=told_facts l0_0
  have hu30:=Try.underlying30
  have hu70:=Try.underlying70
  have HF:=Aside0.mk hF
  have HR0:=Aside0.mk hr0_0
  have HC0:=Aside0.mk hc0_0
  have HR1:=Aside0.mk hr0_1
  have HC1:=Aside0.mk hc0_1
  simp only [impl_ToldBy.f,Option.some.injEq] at h
  clear hr0_0 hc0_0 hr0_1 hc0_1 hF
  cases hL:logicB l0_0 l0_1 with
  | false =>
    rw [hL] at h
    have hr_: -1=r:=by simpa using h
    subst hr_
    have HLB:=Aside0.mk hL
    clear h hL
    go_enter Try.func62,Try.ntmps62
    go_wp2_with (first|((with_reducible refine gate_dst (N:=2) rfl ?_);refine box_event ?hg (N:=2) ?hd (cs:= #[.slice A0_0 l0_0.length c0_0,.slice A0_1 l0_1.length c0_1]) (t:=30) ?hr ?_;(case hd=>rfl);(case hg=>rfl);(case hr=>first|(go_simp;done)|(go_simp;rfl));intro gb hg_ w1 hbox hb;have HB:=Aside0.mk hb;have hx0:w1.cell? ⟨gb,0,none⟩=some (.slice A0_0 l0_0.length c0_0):=(blk_cell hbox 0).trans rfl;have hx1:w1.cell? ⟨gb,1,none⟩=some (.slice A0_1 l0_1.length c0_1):=(blk_cell hbox 1).trans rfl;have HX:=Aside0.mk hbox;clear hbox hb hg_)|(go_at_call 77;(with_reducible refine(told_n k _ _ l0_0 _ _ l0_1 _ ?s1 ?s2 ?s3 ?s4 HF.out HLB.out).mono ?_);(case s1=>exact Kd.C_below HR0.out HB.out);(case s2=>exact HC0.out);(case s3=>exact Kd.C_below HR1.out HB.out);(case s4=>exact HC1.out);rintro e w2 ⟨rfl,hb⟩;have HB2:=Aside0.mk (below_step HB.out hb);clear hb hx0 hx1 HX HB)|(go_at_call 78;(with_reducible refine(knows_nil _ _ _ _).mono ?_);rintro e w3 ⟨rfl,hb⟩;have HB3:=Aside0.mk (below_step zq116 hb);clear hb))
    go_ret
    exact⟨rfl,HB3.out⟩
  | true =>
    have HLB:=Aside0.mk hL
    have HLg:=Aside0.mk (logicB_iff.1 hL)
    have HSM:=Aside0.mk (logicB_iff.1 hL).small
    cases hin: [a1].all (inR l0_0.length) with
    | false =>
      rw [hL,hin] at h
      have hr_: -1=r:=by simpa using h
      subst hr_
      have HIN:=Aside0.mk hin
      clear h hL hin
      go_enter Try.func62,Try.ntmps62
      go_wp2_with (first|((with_reducible refine gate_dst (N:=2) rfl ?_);refine box_event ?hg (N:=2) ?hd (cs:= #[.slice A0_0 l0_0.length c0_0,.slice A0_1 l0_1.length c0_1]) (t:=30) ?hr ?_;(case hd=>rfl);(case hg=>rfl);(case hr=>first|(go_simp;done)|(go_simp;rfl));intro gb hg_ w1 hbox hb;have HB:=Aside0.mk hb;have hx0:w1.cell? ⟨gb,0,none⟩=some (.slice A0_0 l0_0.length c0_0):=(blk_cell hbox 0).trans rfl;have hx1:w1.cell? ⟨gb,1,none⟩=some (.slice A0_1 l0_1.length c0_1):=(blk_cell hbox 1).trans rfl;have HX:=Aside0.mk hbox;clear hbox hb hg_)|(go_at_call 77;(with_reducible refine(told_y k _ _ l0_0 _ _ l0_1 _ ?s1 ?s2 ?s3 ?s4 HF.out HLB.out).mono ?_);(case s1=>exact Kd.C_below HR0.out HB.out);(case s2=>exact HC0.out);(case s3=>exact Kd.C_below HR1.out HB.out);(case s4=>exact HC1.out);rintro e w2 ⟨g,v,rfl,hv,hge,hb⟩;have HB2:=Aside0.mk (below_step HB.out hb);have HV:=Aside0.mk hv;clear hv hge hb hx0 hx1 HX HB)|(go_at_call 78;(with_reducible refine(knows_calls g l0_0 l0_1 v _ HLg.out ?s1 _ _ [a1] 1 rfl ?s2 (by omega) false HIN.out).mono ?_);(case s1=>exact View.alloc HV.out _);(case s2=>exact lit_C _ _ [a1] (by simp));rintro e w3 ⟨rfl,hb⟩;have HB3:=Aside0.mk (below_step (below_alloc HB2.out _) hb);have HV3:=Aside0.mk (View.below (View.alloc HV.out _) hb);clear hb))
      go_ret
      exact⟨rfl,HB3.out⟩
    | true =>
      rw [hL,hin] at h
      have hr_:(((stN l0_0 l0_1).countP fun s=>s.testBit a1.toNat:Nat):Int)=r:=by simpa using h
      subst hr_
      have HIN:=Aside0.mk hin
      have hin2:=hin
      simp only [List.all_cons,List.all_nil,Bool.and_true,Bool.and_eq_true,inR_iff] at hin2
      have Ia1:=Aside0.mk (hin2)
      clear h hL hin hin2
      go_enter Try.func62,Try.ntmps62
      have HLEN:=Aside0.mk (filI_len (2 ^ l0_0.length) fun(s:Nat)=>isSt l0_0 l0_1 (s:Int))
      have HPOW:=Aside0.mk (show 2 ^ l0_0.length≤4096 from Nat.pow_le_pow_right (by omega) (show l0_0.length≤12 from HSM.out))
      have HLEN2:=Aside0.mk (show (stN l0_0 l0_1).length≤4096 from Nat.le_trans (filN_len _ _) HPOW.out)
      obtain⟨LI,hLI⟩: ∃LI,LI=(stL l0_0 l0_1):=⟨_,rfl⟩
      have HLI:=Aside0.mk hLI
      have HLEN3:=Aside0.mk (show LI.length=(stN l0_0 l0_1).length by rw [hLI];exact HLEN.out)
      clear hLI
      go_wp2_with (first|((with_reducible refine gate_dst (N:=2) rfl ?_);refine box_event ?hg (N:=2) ?hd (cs:= #[.slice A0_0 l0_0.length c0_0,.slice A0_1 l0_1.length c0_1]) (t:=30) ?hr ?_;(case hd=>rfl);(case hg=>rfl);(case hr=>first|(go_simp;done)|(go_simp;rfl));intro gb hg_ w1 hbox hb;have HB:=Aside0.mk hb;have hx0:w1.cell? ⟨gb,0,none⟩=some (.slice A0_0 l0_0.length c0_0):=(blk_cell hbox 0).trans rfl;have hx1:w1.cell? ⟨gb,1,none⟩=some (.slice A0_1 l0_1.length c0_1):=(blk_cell hbox 1).trans rfl;have HX:=Aside0.mk hbox;clear hbox hb hg_)|(go_at_call 77;(with_reducible refine(told_y k _ _ l0_0 _ _ l0_1 _ ?s1 ?s2 ?s3 ?s4 HF.out HLB.out).mono ?_);(case s1=>exact Kd.C_below HR0.out HB.out);(case s2=>exact HC0.out);(case s3=>exact Kd.C_below HR1.out HB.out);(case s4=>exact HC1.out);rintro e w2 ⟨g,v,rfl,hv,hge,hb⟩;have HB2:=Aside0.mk (below_step HB.out hb);have HV:=Aside0.mk hv;clear hv hge hb hx0 hx1 HX HB)|(go_at_call 78;(with_reducible refine(knows_calls g l0_0 l0_1 v _ HLg.out ?s1 _ _ [a1] 1 rfl ?s2 (by omega) true HIN.out).mono ?_);(case s1=>exact View.alloc HV.out _);(case s2=>exact lit_C _ _ [a1] (by simp));rintro e w3 ⟨rfl,hb⟩;have HB3:=Aside0.mk (below_step (below_alloc HB2.out _) hb);have HV3:=Aside0.mk (View.below (View.alloc HV.out _) hb);clear hb)|(go_at_call 107;(with_reducible refine(states_calls g l0_0 l0_1 v _ HLg.out HV3.out).mono ?_);rintro e w5 ⟨vs,rfl,ho,hb⟩;have HCB:=Aside0.mk (Kd.R_reads ho);have HB5:=Aside0.mk (below_step HB3.out hb);obtain⟨Ab,cb,rfl⟩:=Kd.R_slice ho;clear ho hb))
      have HRB:=Aside0.mk (show Kd.C (Kd.int .i64) w5 Ab LI.length LI by rw [HLI.out];obtain⟨A_,c_,e_,_,hc_⟩:=HCB.out;injection e_ with e1_ e2_ e3_;rw [e1_];exact hc_)
      clear HCB
      rw [← HLI.out]
      go_loopg [19,6] (LI.length+1) (fun kq v19 v6 W=> ∃i m:Nat,v19= .int .i64 i∧v6= .int .i64 ((cntF (stN l0_0 l0_1) a1.toNat i:Nat):Int)∧Aside0 (i+kq=LI.length+1)∧Aside0 (i≤LI.length)∧W=w5.drewN m)
      case atStart=>exact⟨0,0,rfl,by simp [cntF],⟨by omega⟩,⟨by omega⟩,rfl⟩
      case round =>
        obtain⟨i,m,rfl,rfl,HK,HK2,rfl⟩:=hrel
        cases gk with
        |zero=>exact absurd HK.out (by have:=HK2.out;omega)
        |succ kn=>
        obtain⟨cn,hcn⟩: ∃cn:Nat,cn=cntF (stN l0_0 l0_1) a1.toNat i:=⟨_,rfl⟩
        rw [← hcn]
        have HCN:=Aside0.mk hcn
        have HCL:=Aside0.mk (show cn≤i by rw [hcn];exact cntF_le _ _ _)
        clear hcn
        by_cases hlt:i<LI.length
        · have hlt' : decide (i < LI.length) = true := decide_eq_true hlt
          have HLT:=Aside0.mk hlt
          obtain⟨ad,e,hx⟩:=ints_cell HRB.out i (by omega) (by omega)
          subst e
          rw [Int.toNat_natCast] at hx
          have hat:at1 LI i=(((stN l0_0 l0_1).getD i 0:Nat):Int):=by rw [HLI.out];exact filI_at _ _ i
          rw [hat] at hx
          obtain⟨q,hq⟩: ∃q:Nat,q=(stN l0_0 l0_1).getD i 0:=⟨_,rfl⟩
          rw [← hq] at hx
          have p1:(i<LI.length)=True:=eq_true hlt
          have HH:=Aside0.mk (has_in q (by rw [hq];exact filN_lt HPOW.out _ i) Ia1.out.1 (by have:=Ia1.out.2;have:=HSM.out;omega))
          have HS:=Aside0.mk (cntF_succ (stN l0_0 l0_1) a1.toNat (i:=i) (by rw [← HLEN3.out];exact hlt))
          have HQ:=Aside0.mk hq
          clear hlt hq hat
          cases ht:q.testBit a1.toNat with
          | true =>
            have HT:=Aside0.mk ht
            clear ht
            go_wp2_with (go_at_call 99;(with_reducible refine(impl_has.calls _ _ _ _ HH.out).mono ?_);rintro e w' ⟨he,⟨⟨nd,rfl⟩⟩⟩;rw [HT.out] at he;subst he)
            go_roundg kn
            case measure=>omega
            case rel=>exact⟨i+1,_,zq384,by rw [HS.out,← HQ.out,HT.out,if_pos rfl,← HCN.out];first|go_num|(rw [wrap_small (by omega) (by have:=HCL.out;have:=HLT.out;have:=HLEN3.out;have:=HLEN2.out;omega)];go_num),⟨by have:=HK.out;omega⟩,⟨by have:=HLT.out;omega⟩,rfl⟩
          | false =>
            have HT:=Aside0.mk ht
            clear ht
            go_wp2_with (go_at_call 99;(with_reducible refine(impl_has.calls _ _ _ _ HH.out).mono ?_);rintro e w' ⟨he,⟨⟨nd,rfl⟩⟩⟩;rw [HT.out] at he;subst he)
            go_roundg kn
            case measure=>omega
            case rel=>exact⟨i+1,_,zq384,by rw [HS.out,← HQ.out,HT.out,if_neg (by simp),← HCN.out];rfl,⟨by have:=HK.out;omega⟩,⟨by have:=HLT.out;omega⟩,rfl⟩
        · have hlt' : decide (i < LI.length) = false := decide_eq_false hlt
          obtain rfl:i=LI.length:=by have:=HK2.out;omega
          clear hlt
          obtain rfl:cn=(stN l0_0 l0_1).countP fun s=>s.testBit a1.toNat:=by rw [HCN.out,HLEN3.out];exact cntF_all _ _
          go_wp2_with fail
          go_ret
          exact⟨rfl,by repeat(first|exact HB5.out|apply pw_below_drewN|apply below_drew1)⟩
end Go.Proofs.Ytdoomkcgdcfmlaa.Print
end
