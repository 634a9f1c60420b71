/- Part 1 of what this is proved by: for every text of bytes the law of UpToOf answers true -/
import Derived.Test.YtdoomkcgdcfmlaaLB7
import Derived.Below
import Derived.Deep.Draws
import Derived.Deep.AppendLies
import Derived.Maps.AppendAt
import Derived.OwnWalk
import Derived.Laws.BytesArg
import Derived.Laws.MakeOwn
import Derived.Laws.OwnMore
import Derived.Deep.OwnRows
import Derived.Tactics
import Derived.Lib.ConvBytes
import Derived.Laws.Slices
import Derived.WalkKit
import Derived.KernelRfl
import Derived.RowKit3
import Derived.Deep.LoopGhost
import Derived.Deep.QuietTactic
import Derived.BigQuiet
import Derived.WideLaws
import Derived.Deep.DeepCutAuto
import Derived.Deep.CutBlock
import Derived.Deep.RegionHeld3
import Derived.Laws.Rows
import Derived.Lib.AppendStr
import Derived.ArgAppend
import Derived.Laws.IdiomCopy
import Derived.RowKit
import Derived.Test.YtdoomkcgdcfmlaaProg
import Derived.OrdersHeld
import Derived.Laws.BitsLemmas
import Derived.Laws.Bits64b
set_option linter.all false
section
namespace Go.Proofs.YtdoomkcgdcfmlaaW.PrintWords
open Go.RowKit
def nums (k : IntKind) (xs : List Int) : List Value := xs.map fun x => .int k x
theorem own_lit (W : World) (base : Nat) (e : TypeId) (k : IntKind) (xs : List Int) (hb : base ≤ W.heap.size) (hm : xs.length ≤ 9223372036854775807) :
    (W.alloc (.cells (nums k xs).toArray e)).ownsRow base e 1 (.slice (some ⟨W.heap.size,0,none⟩) xs.length xs.length) xs.length (nums k xs):=by
  have h:=World.ownsRow_lit (base:=base) (e:=e) (size:=1) W (nums k xs).toArray xs.length hb (by simpa [maxLen] using hm) (by simp [nums])
  simpa using h
section
variable {P : Program}
theorem results_ct {fn : Func} {p u : Tmp} {ty : TypeId} (h : fn.results = #[.cell p ty, .tmp u]) (tmps : Array Value) (w : World) (g : Nat) (t : TypeId) (cs : Array Value) (fr : Nat × Nat) (d : TypeDesc)
    (hp:tmps.getD p undef= .pointer (some ⟨g,0,none⟩)) (hg:w.heap[g]? =some (.cells cs t fr))
    (hu:P.underlying ty=some d) (hd:(match d with| .struct _| .array _ _=>true|_=>false)=true) (hi:(P.info? ty).map (·.size)=some cs.size):
    (results fn tmps).run P w= .ok (.tuple #[.agg cs,tmps.getD u undef]) w:=by
  have hp':tmps[p]?.getD undef= .pointer (some ⟨g,0,none⟩):=by simpa using hp
  simp [results,h,hp',asAddr,run_loadVar_row w g t ty cs fr d hg hu hd hi]
theorem results_ctt {fn : Func} {p u v : Tmp} {ty : TypeId} (h : fn.results = #[.cell p ty, .tmp u, .tmp v]) (tmps : Array Value) (w : World) (g : Nat) (t : TypeId) (cs : Array Value) (fr : Nat × Nat) (d : TypeDesc)
    (hp:tmps.getD p undef= .pointer (some ⟨g,0,none⟩)) (hg:w.heap[g]? =some (.cells cs t fr))
    (hu:P.underlying ty=some d) (hd:(match d with| .struct _| .array _ _=>true|_=>false)=true) (hi:(P.info? ty).map (·.size)=some cs.size):
    (results fn tmps).run P w= .ok (.tuple #[.agg cs,tmps.getD u undef,tmps.getD v undef]) w:=by
  have hp':tmps[p]?.getD undef= .pointer (some ⟨g,0,none⟩):=by simpa using hp
  simp [results,h,hp',asAddr,run_loadVar_row w g t ty cs fr d hg hu hd hi]
end
theorem cell_far {W : World} {p a : Addr} (h : a.block ≠ p.block) (u : Value) : (W.setCell p u).cell? a = W.cell? a := by
  have := Below.heap_setCell W p u a.block h
  simp [World.cell?, this]
end Go.Proofs.YtdoomkcgdcfmlaaW.PrintWords
end
section
namespace Go.Proofs.YtdoomkcgdcfmlaaW.PrintWords
open Go.RowKit
def mx (a b : Int) : Int := if a < b then b else a
def shr (k : IntKind) (x y : Int) : Int := x / 2 ^ min y.toNat k.bits
theorem shr_small {k : IntKind} {x y j : Int} (h : shr k x y = j) (hy : y ≤ k.bits) : x / 2 ^ y.toNat = j := by rw [← h]; unfold shr; rw [Nat.min_eq_left (by omega)]
end Go.Proofs.YtdoomkcgdcfmlaaW.PrintWords

end
section
namespace Go.Proofs.Ytdoomkcgdcfmlaa
variable {p : Prop}
theorem zr0 (h:p:=by repeat(first|(with_reducible first|exact HB.out|apply below_alloc|apply pw_below_drewN|apply below_drew1)|exact HB.out)):p:=h
theorem zr1 (h:p:=by (with_reducible repeat(first|refine blk_drewN ?_ _|refine blk_drew ?_|refine blk_alloc ?_ _));exact a0.out):p:=h
theorem zr2 (h:p:=by (try simp only [List.map_toArray,List.map_cons,List.map_nil]);first|done|rfl|(simp only [List.length_drop,List.length_take];rfl)):p:=h
theorem zr3 (h:p:=by repeat(first|(with_reducible first|exact HB.out|apply below_alloc|apply pw_below_drewN|apply below_drew1|refine below_set ?_ b4.out)|exact HB.out)):p:=h
theorem zr4 (h:p:=by repeat(first|(with_reducible first|exact HB.out|apply below_alloc|apply pw_below_drewN|apply below_drew1|refine below_set ?_ a2.out)|exact HB.out)):p:=h
theorem zr5 (h:p:=by repeat(first|exact(Kd.C_below a5.out HB.out)|(with_reducible refine Kd.C_alloc ?_ _)|(with_reducible refine Kd.C_drewN ?_ _)|(with_reducible refine Kd.C_drew ?_))):p:=h
theorem zr6 (h:p:=by repeat(first|(with_reducible first|exact HB.out|apply below_alloc|apply pw_below_drewN|apply below_drew1|refine below_set ?_ a4.out)|exact HB.out)):p:=h
theorem zr7 (h:p:=by (with_reducible repeat(first|apply Kd.R_alloc|apply Kd.R_drewN|apply Kd.R_drew));exact HO_5.out):p:=h
theorem zr8 (h:p:=by repeat(first|exact(Kd.R_reads' HO_5.out).2.2|(with_reducible refine Kd.C_alloc ?_ _)|(with_reducible refine Kd.C_drewN ?_ _)|(with_reducible refine Kd.C_drew ?_))):p:=h
theorem zr9 (h:p:=by repeat(first|exact(Kd.C_below a5.out (by repeat(first|(with_reducible first|exact HB.out|apply below_alloc|apply pw_below_drewN|apply below_drew1|refine below_set ?_ a4.out)|exact HB.out)))|(with_reducible refine Kd.C_alloc ?_ _)|(with_reducible refine Kd.C_drewN ?_ _)|(with_reducible refine Kd.C_drew ?_))):p:=h
theorem zr10 (h:p:=by repeat(first|exact(Kd.C_below a5.out (by repeat(first|(with_reducible first|exact HB.out|apply below_alloc|apply pw_below_drewN|apply below_drew1|refine below_set ?_ a2.out)|exact HB.out)))|(with_reducible refine Kd.C_alloc ?_ _)|(with_reducible refine Kd.C_drewN ?_ _)|(with_reducible refine Kd.C_drew ?_))):p:=h
theorem zr11 (h:p:=by repeat(first|exact(Kd.C_below b8.out HB.out)|(with_reducible refine Kd.C_alloc ?_ _)|(with_reducible refine Kd.C_drewN ?_ _)|(with_reducible refine Kd.C_drew ?_))):p:=h
theorem zr12 (h:p:=by first|rfl|(simp [errW_none,errW_some] <;> rfl)|(simp [*,errW_none,errW_some] <;> rfl)):p:=h
theorem zr13 (h:p:=by repeat(first|(with_reducible first|exact HB.out|apply below_alloc|apply pw_below_drewN|apply below_drew1|refine below_set ?_ (IsS87.ge a0.out)|refine below_set ?_ c3.out|refine below_set ?_ d0.out)|exact HB.out)):p:=h
theorem zr14 (h:p:=by repeat(first|(with_reducible exact b0.out)|(with_reducible refine Kd.C_alloc ?_ _)|(with_reducible refine Kd.C_drewN ?_ _)|(with_reducible refine Kd.C_drew ?_)|exact b0.out)):p:=h
theorem zr15 (h:p:=by repeat(first|(with_reducible first|exact a0.out|apply IsS87.alloc|apply IsS87.drewN|apply IsS87.drew|apply IsS87.set_1|refine IsS87.far ?_ a7.out _|refine IsS87.far ?_ a9.out _)|exact a0.out)):p:=h
theorem zr16 (h:p:=by repeat(first|(with_reducible first|exact HK.out|apply KeepBut.set_|apply keep_drewN|apply keep_drew|apply keep_alloc|refine keep_far ?_ b9.out _|refine keep_far ?_ c9.out _)|exact HK.out)):p:=h
theorem zr17 (h:p:=by repeat(first|(with_reducible first|exact HB.out|apply below_alloc|apply pw_below_drewN|apply below_drew1|refine below_set ?_ (IsS87.ge a2.out)|refine below_set ?_ a5.out)|exact HB.out)):p:=h
theorem zr18 (h:p:=by repeat(first|(with_reducible first|exact HB.out|apply below_alloc|apply pw_below_drewN|apply below_drew1|refine below_set ?_ a5.out)|exact HB.out)):p:=h
theorem zr19 (h:p:=by repeat(first|exact(Kd.S_reads' HO_924000.out).2.2|(with_reducible refine Kd.C_alloc ?_ _)|(with_reducible refine Kd.C_drewN ?_ _)|(with_reducible refine Kd.C_drew ?_))):p:=h
theorem zr20 (h:p:=by repeat(first|exact(Kd.Q_reads' HO_924001.out).2.2|(with_reducible refine Kd.C_alloc ?_ _)|(with_reducible refine Kd.C_drewN ?_ _)|(with_reducible refine Kd.C_drew ?_))):p:=h
theorem zr21 (h:p:=by (with_reducible repeat(first|apply Kd.S_alloc|apply Kd.S_drewN|apply Kd.S_drew));exact HO_924000.out):p:=h
theorem zr22 (h:p:=by (with_reducible repeat(first|apply Kd.Q_alloc|apply Kd.Q_drewN|apply Kd.Q_drew));exact HO_924001.out):p:=h
theorem zr23 (h:p:=by repeat(first|(with_reducible first|exact HK.out|apply KeepBut.set_|apply keep_drewN|apply keep_drew|apply keep_alloc|refine keep_far ?_ b9.out _)|exact HK.out)):p:=h
theorem zr24 (h:p:=by (with_reducible repeat(first|apply Kd.Q_alloc|apply Kd.Q_drewN|apply Kd.Q_drew));exact a7.out):p:=h
theorem zr25 (h:p:=by (with_reducible repeat(first|apply Kd.Q_alloc|apply Kd.Q_drewN|apply Kd.Q_drew));exact(Kd.Q_mono (Kd.Q_far (p:=⟨a5,1,none⟩) (Kd.Q_far (p:=⟨a5,0,none⟩) (Kd.Q_types a7.out a0.out (by decide)) (fun _ hk=>hk.2) (.slice g7 a1.length f9)) (fun _ hk=>hk.2) (.slice g8 a4.length g0)) (fun _ h_=>h_.1))):p:=h
theorem zr26 (h:p:=by (with_reducible repeat(first|apply Kd.Q_alloc|apply Kd.Q_drewN|apply Kd.Q_drew));exact(Kd.Q_mono (Kd.Q_far (p:=⟨a5,1,none⟩) (Kd.Q_far (p:=⟨a5,0,none⟩) (Kd.Q_types a7.out a0.out (by decide)) (fun _ hk=>hk.2) (.slice c6 a1.length b2)) (fun _ hk=>hk.2) (.slice b1 a4.length a9)) (fun _ h_=>h_.1))):p:=h
theorem zr27 (h:p:=by (with_reducible repeat(first|apply Kd.Q_alloc|apply Kd.Q_drewN|apply Kd.Q_drew));exact(Kd.Q_mono (Kd.Q_far (p:=⟨a5,1,none⟩) (Kd.Q_far (p:=⟨a5,0,none⟩) (Kd.Q_types a7.out a0.out (by decide)) (fun _ hk=>hk.2) (.slice f7 a1.length e8)) (fun _ hk=>hk.2) (.slice f8 a4.length e9)) (fun _ h_=>h_.1))):p:=h
theorem zr28 (h:p:=by (with_reducible repeat(first|refine blk_drewN ?_ _|refine blk_drew ?_|refine blk_alloc ?_ _));exact a6.out):p:=h
theorem zr29 (h:p:=by repeat(first|exact(Kd.C_below b0.out HB.out)|(with_reducible refine Kd.C_alloc ?_ _)|(with_reducible refine Kd.C_drewN ?_ _)|(with_reducible refine Kd.C_drew ?_))):p:=h
theorem zr30 (h:p:=by repeat(first|exact Drawn0.refl _|apply Drawn0.step)):p:=h
theorem zr31 (h:p:=by (with_reducible repeat(first|apply Kd.S_alloc|apply Kd.S_drewN|apply Kd.S_drew));exact a8.out):p:=h
theorem zr32 (h:p:=by (with_reducible repeat(first|apply Kd.R_alloc|apply Kd.R_drewN|apply Kd.R_drew));exact b5.out):p:=h
theorem zr33 (h:p:=by (with_reducible repeat(first|apply Kd.S_alloc|apply Kd.S_drewN|apply Kd.S_drew));exact(Kd.S_mono (Kd.S_far (p:=⟨a5,1,none⟩) (Kd.S_far (p:=⟨a5,0,none⟩) (Kd.S_types a8.out a0.out (by decide)) (fun _ hk=>hk.2) (.slice c6 a1.length b2)) (fun _ hk=>hk.2) (.slice b1 a4.length a9)) (fun _ h_=>h_.1))):p:=h
theorem zr34 (h:p:=by (with_reducible repeat(first|apply Kd.S_alloc|apply Kd.S_drewN|apply Kd.S_drew));exact(Kd.S_mono (Kd.S_far (p:=⟨a5,1,none⟩) (Kd.S_far (p:=⟨a5,0,none⟩) (Kd.S_types a8.out a0.out (by decide)) (fun _ hk=>hk.2) (.slice g7 a1.length f9)) (fun _ hk=>hk.2) (.slice g8 a4.length g0)) (fun _ h_=>h_.1))):p:=h
theorem zr35 (h:p:=by (with_reducible repeat(first|apply Kd.S_alloc|apply Kd.S_drewN|apply Kd.S_drew));exact(Kd.S_mono (Kd.S_far (p:=⟨a5,1,none⟩) (Kd.S_far (p:=⟨a5,0,none⟩) (Kd.S_types a8.out a0.out (by decide)) (fun _ hk=>hk.2) (.slice f7 a1.length e8)) (fun _ hk=>hk.2) (.slice f8 a4.length e9)) (fun _ h_=>h_.1))):p:=h
theorem zr36 (h:p:=by repeat(first|(with_reducible first|exact HB.out|apply below_alloc|apply pw_below_drewN|apply below_drew1|refine below_set ?_ a3.out)|exact HB.out)):p:=h
theorem zr37 (h:p:=by exact(below_size (by repeat(first|(with_reducible first|exact HB.out|apply below_alloc|apply pw_below_drewN|apply below_drew1|refine below_set ?_ a2.out)|exact HB.out)))):p:=h
theorem zr38 (h:p:=by repeat(first|exact(Kd.C_below a8.out HB.out)|(with_reducible refine Kd.C_alloc ?_ _)|(with_reducible refine Kd.C_drewN ?_ _)|(with_reducible refine Kd.C_drew ?_))):p:=h
theorem zr39 (h:p:=by repeat(first|exact(Kd.R_reads' e1.out).2.2|(with_reducible refine Kd.C_alloc ?_ _)|(with_reducible refine Kd.C_drewN ?_ _)|(with_reducible refine Kd.C_drew ?_))):p:=h
theorem zr40 (h:p:=by repeat(first|exact(Kd.S_reads' a8.out).2.2|(with_reducible refine Kd.C_alloc ?_ _)|(with_reducible refine Kd.C_drewN ?_ _)|(with_reducible refine Kd.C_drew ?_))):p:=h
theorem zr41 (h:p:=by repeat(first|exact(Kd.R_reads' b5.out).2.2|(with_reducible refine Kd.C_alloc ?_ _)|(with_reducible refine Kd.C_drewN ?_ _)|(with_reducible refine Kd.C_drew ?_))):p:=h
theorem zr42 (h:p:=by repeat(first|exact(Kd.Q_reads' a7.out).2.2|(with_reducible refine Kd.C_alloc ?_ _)|(with_reducible refine Kd.C_drewN ?_ _)|(with_reducible refine Kd.C_drew ?_))):p:=h
theorem zr43 (h:p:=by exact(by repeat(first|(with_reducible first|exact HB.out|apply below_alloc|apply pw_below_drewN|apply below_drew1|refine below_set ?_ a2.out)|exact HB.out))):p:=h
theorem zr44 (h:p:=by (with_reducible repeat(first|apply Kd.Q_alloc|apply Kd.Q_drewN|apply Kd.Q_drew));exact b4.out):p:=h
theorem zr45 (h:p:=by (with_reducible repeat(first|apply Kd.S_alloc|apply Kd.S_drewN|apply Kd.S_drew));exact b3.out):p:=h
theorem zr46 (h:p:=by repeat(first|exact p5.out|(with_reducible refine Kd.C_alloc ?_ _)|(with_reducible refine Kd.C_drewN ?_ _)|(with_reducible refine Kd.C_drew ?_))):p:=h
theorem zr47 (h:p:=by (with_reducible repeat(first|refine blk_drewN ?_ _|refine blk_drew ?_|refine blk_alloc ?_ _));exact a3.out):p:=h
theorem zr48 (h:p:=by repeat(first|(with_reducible first|exact HK.out|apply KeepBut.set_|apply keep_drewN|apply keep_drew|apply keep_alloc)|exact HK.out)):p:=h
theorem zr49 (h:p:=by repeat (first | exact HB1.out | apply below_alloc | apply pw_below_drewN | apply below_drew1)):p:=h
theorem zr50 (h:p:=by repeat(first|(with_reducible first|exact HB.out|apply below_alloc|apply pw_below_drewN|apply below_drew1|refine below_set ?_ (IsS87.ge a0.out)|refine below_set ?_ c3.out)|exact HB.out)):p:=h
theorem zr51 (h:p:=by repeat(first|(with_reducible exact b9.out)|(with_reducible refine Kd.C_alloc ?_ _)|(with_reducible refine Kd.C_drewN ?_ _)|(with_reducible refine Kd.C_drew ?_)|exact b9.out)):p:=h
theorem zr52 (h:p:=by repeat(first|(with_reducible exact c3.out)|(with_reducible refine Kd.C_alloc ?_ _)|(with_reducible refine Kd.C_drewN ?_ _)|(with_reducible refine Kd.C_drew ?_)|exact c3.out)):p:=h
theorem zr53 (h:p:=by repeat(first|(with_reducible first|exact a2.out|apply IsS87.alloc|apply IsS87.drewN|apply IsS87.drew|apply IsS87.set_1|refine IsS87.far ?_ a4.out _)|exact a2.out)):p:=h
theorem zr54 (h:p:=by repeat(first|(with_reducible first|exact a0.out|apply IsS87.alloc|apply IsS87.drewN|apply IsS87.drew|apply IsS87.set_1|refine IsS87.far ?_ a7.out _)|exact a0.out)):p:=h
theorem zr55 (h:p:=by exact(by(with_reducible repeat(first|apply Kd.R_alloc|apply Kd.R_drewN|apply Kd.R_drew));exact HO_5.out)):p:=h
theorem zr56 (h:p:=by (try simp only [List.map_toArray,List.map_cons,List.map_nil]);first|done|(simp only [c8];rfl)|rfl|(simp only [List.length_drop,List.length_take];rfl)):p:=h
theorem zr57 (h:p:=by first|exact d9|exact zqo|(have e_:=(Kd.S_reads' HO_924000.out).1;omega)):p:=h
theorem zr58 (h:p:=by repeat (first | exact HB3.out | apply below_alloc | apply pw_below_drewN | apply below_drew1)):p:=h
theorem zr59 (h:p:=by (with_reducible repeat(first|apply Kd.R_alloc|apply Kd.R_drewN|apply Kd.R_drew));exact c9.out):p:=h
theorem zr60 (h:p:=by have:=c8.out;have:=d7.out;have:=d8.out;omega):p:=h
theorem zr61 (h:p:=by have:=c3.out;have:=d5.out;have:=d6.out;omega):p:=h
theorem zr62 (h:p:=by (with_reducible repeat (first | apply Kd.R_alloc | apply Kd.R_drewN | apply Kd.R_drew)); exact HO1.out):p:=h
theorem zr63 (h:p:=by (with_reducible repeat(first|apply Kd.R_alloc|apply Kd.R_drewN|apply Kd.R_drew));exact e1.out):p:=h
theorem zr64 (h:p:=by (try simp only [List.map_toArray, List.map_cons, List.map_nil]); first | done | rfl):p:=h
theorem zr65 (h:p:=by repeat(first|exact HUC.out|(refine Kd.C_drewN ?_ _)|(refine Kd.C_drew ?_))):p:=h
theorem zr66 (h:p:=by repeat(first|exact Below.refl _ _|apply pw_below_drewN|apply below_drew1)):p:=h
theorem zr67 (h:p:=by first|exact h6|exact zqo|(have e_:=(Kd.S_reads' HO_924000.out).1;omega)):p:=h
theorem zr68 (h:p:=by first|exact i0|exact zqo|(have e_:=(Kd.S_reads' HO_924000.out).1;omega)):p:=h
end Go.Proofs.Ytdoomkcgdcfmlaa
end
section
namespace Go.Proofs.Ytdoomkcgdcfmlaa.Print
open Go.RowKit Go.Proofs.YtdoomkcgdcfmlaaW.PrintWords Go.Proofs.YtdoomkcgdcfmlaaW.PrintLast Go.Proofs.YtdoomkcgdcfmlaaW.PrintMore
mutual
def spec_KeepsOk.l0 : Nat → Int → List (List Int) → List Int → Option (Bool)
 | 0, _, _, _ => none
 | k + 1, x3, x610000, x610001 => if x3 < (x610001.length : Int) then ((spec_LogicOk.f k x610000 x610001).bind fun t610 => (spec_KeepsOk.j1 k x3 t610 x610000 x610001)) else (spec_KeepsOk.j1 k x3 false x610000 x610001)
def spec_KeepsOk.j1 : Nat → Int → Bool → List (List Int) → List Int → Option (Bool)
 | 0, _, _, _, _ => none
 | k + 1, x3, x13, x610000, x610001 => if x13 = true then (spec_KeepsOk.l1 k x3 0 x610000 x610001) else ((spec_LogicOk.f k x610000 x610001).bind fun t611 => (some t611))
def spec_KeepsOk.l1 : Nat → Int → Int → List (List Int) → List Int → Option (Bool)
 | 0, _, _, _, _ => none
 | k + 1, x3, x4, x610000, x610001 => if x4 < (x610001.length : Int) then (if 0 ≤ x3 then (if x3 < (x610000.length : Int) then (if 0 ≤ x4 then (if x4 < ((rd_L3 x610000 x3).length : Int) then (if (rd (rd_L3 x610000 x3) x4) = 1 then (if x3 < (x610001.length : Int) then ((spec_l1Meet.f k x610000 x4 (rd x610001 x3)).bind fun t615 => ((spec_l1Join.f k x610000 x3 t615).bind fun t616 => (if t616 = x4 then (spec_KeepsOk.l1 k x3 (wrap64 (x4 + 1)) x610000 x610001) else (some false)))) else (none)) else (spec_KeepsOk.l1 k x3 (wrap64 (x4 + 1)) x610000 x610001)) else (none)) else (none)) else (none)) else (none)) else (spec_KeepsOk.l0 k (wrap64 (x3 + 1)) x610000 x610001)
end
def spec_KeepsOk.f (k : Nat) (l0_0 : List (List Int)) (l0_1 : List Int) : Option (Bool) := spec_KeepsOk.l0 k 0 l0_0 l0_1
set_option maxHeartbeats 8000000 in
set_option maxRecDepth 100000 in
theorem spec_KeepsOk.calls (k : Nat) (A0_0 : Option Addr) (c0_0 : Nat) (l0_0 : List (List Int)) (A0_1 : Option Addr) (c0_1 : Nat) (l0_1 : List Int) (r : Bool) (w : World) (hr0_0 : Kd.C (Kd.slice 3 (Kd.int .i64)) w A0_0 l0_0.length l0_0) (hc0_0 : l0_0.length ≤ c0_0) (hr0_1 : Kd.C (Kd.int .i64) w A0_1 l0_1.length l0_1) (hc0_1 : l0_1.length ≤ c0_1) (h : spec_KeepsOk.f k l0_0 l0_1 = some r) :
  Calls Try.prog 22 #[.agg #[.slice A0_0 l0_0.length c0_0, .slice A0_1 l0_1.length c0_1]] w fun e w' => e = .returned (.bool r) ∧ Below w.heap.size w w' := by
 have hu30:=Try.underlying30;have a5:=zqm hr0_0;have a6:=zqm hc0_0;clear hr0_0 hc0_0;have b8:=zqm hr0_1;have c0:=zqm hc0_1;clear hr0_1 hc0_1;have HB:=zqm (Below.refl w.heap.size w);have H:(spec_KeepsOk.l0 k 0 l0_0 l0_1)=some r:=h;clear h;have H':=zqm H;clear H
 go_enter Try.func22,Try.ntmps22
 go_wp2_with (first|((with_reducible refine gate_dst (N:=1) rfl ?_);refine box_event ?hg (N:=1) ?hd (cs:= #[.slice A0_0 l0_0.length c0_0,.slice A0_1 l0_1.length c0_1]) (t:=30) ?hr ?_;(case hd=>rfl);(case hg=>rfl);(case hr=>first|(go_simp;done)|(go_simp;rfl));intro a3 hg w2 hbox hb;have c7:=zqm (below_step zr0 hb);have a0:=zqm (hbox);have f4:=zqm ((by rw [hg];exact(below_size zr0):w.heap.size≤a3));have a4:=zqm ((by rw [hg];exact(below_size zr0):w.heap.size≤a3));clear HB;have HB:=c7;clear c7 hb hbox hg))
 repeat(go_quiet (first|((with_reducible refine gate_dst (N:=1) rfl ?_);refine box_event ?hg (N:=1) ?hd (cs:= #[.slice A0_0 l0_0.length c0_0,.slice A0_1 l0_1.length c0_1]) (t:=30) ?hr ?_;(case hd=>rfl);(case hg=>rfl);(case hr=>first|(go_simp;done)|(go_simp;rfl));intro a3 hg w2 hbox hb;have c7:=zqm (below_step zr0 hb);have a0:=zqm (hbox);have f4:=zqm ((by rw [hg];exact(below_size zr0):w.heap.size≤a3));have a4:=zqm ((by rw [hg];exact(below_size zr0):w.heap.size≤a3));clear HB;have HB:=c7;clear c7 hb hbox hg));try go_wp2_with (first|((with_reducible refine gate_dst (N:=1) rfl ?_);refine box_event ?hg (N:=1) ?hd (cs:= #[.slice A0_0 l0_0.length c0_0,.slice A0_1 l0_1.length c0_1]) (t:=30) ?hr ?_;(case hd=>rfl);(case hg=>rfl);(case hr=>first|(go_simp;done)|(go_simp;rfl));intro a3 hg w2 hbox hb;have c7:=zqm (below_step zr0 hb);have a0:=zqm (hbox);have f4:=zqm ((by rw [hg];exact(below_size zr0):w.heap.size≤a3));have a4:=zqm ((by rw [hg];exact(below_size zr0):w.heap.size≤a3));clear HB;have HB:=c7;clear c7 hb hbox hg)))
 go_loopg [3] k (fun kq v3 w'=> ∃(a1:Int),v3= .int .i64 a1∧Aside0 (spec_KeepsOk.l0 kq a1 l0_0 l0_1=some r)∧Aside0 (kq≤k)∧Aside0 (w'.heap[a3]? =some (.cells #[(.slice A0_0 l0_0.length c0_0),(.slice A0_1 l0_1.length c0_1)] 30 (0,0)))∧Aside0 (Below w.heap.size w w'))
 case atStart=>exact⟨(0),(by first|rfl|(simp;done)|(simp [*];done)),H',⟨Nat.le_refl _⟩,⟨zr1⟩,⟨zr6⟩⟩
 case round=>
  clear H';(try clear c2);(try clear p2);obtain⟨a1,rfl,HA,c8,a0,HB⟩:=hrel
  cases gk with
  |zero=>exact absurd HA.out (by simp [spec_KeepsOk.l0])
  |succ k1=>
   have H:=HA.out;clear HA;simp only [spec_KeepsOk.l0] at H;have g2:=zqm H;clear H
   go_upto_region 2 with (fail)
   repeat(go_quiet (fail);go_upto_region 2 with (fail))
   go_cut [13] (fun j6 wc=> ∃(kq:Nat) (d0:Bool),j6= .bool d0∧Aside0 (spec_KeepsOk.j1 kq a1 d0 l0_0 l0_1=some r)∧Aside0 (kq≤k1)∧Aside0 (wc.heap[a3]? =some (.cells #[(.slice A0_0 l0_0.length c0_0),(.slice A0_1 l0_1.length c0_1)] 30 (0,0)))∧Aside0 (Below w.heap.size w wc))
   case first=>
    have H:=g2.out;clear g2
    by_cases c4:a1<(l0_1.length:Int)
    ·rw [if_pos c4] at H;have c1:decide (a1<(l0_1.length:Int))=true:=decide_eq_true c4;clear c4;(first|rw [c1]|(simp only [i64_w,i32_w];rw [c1])|skip);replace H:=Option.bind_eq_some_iff.mp H;obtain⟨d1,h3,H⟩:=H;replace H:(spec_KeepsOk.j1 k1 a1 d1 l0_0 l0_1)=some r:=H;have A5:=zqm h3;clear h3;have H':=zqm H;clear H;have e3:wr.cell? ⟨a3,0,none⟩=some (.slice A0_0 l0_0.length c0_0):=(blk_cell a0.out 0).trans rfl;have e4:wr.cell? ⟨a3,1,none⟩=some (.slice A0_1 l0_1.length c0_1):=(blk_cell a0.out 1).trans rfl;have e5:=blk_frozen a0.out 0;have e6:=blk_frozen a0.out 1
     go_wp2_with (first|(go_at_call 42;(with_reducible refine(spec_LogicOk.calls k1 _ _ l0_0 _ _ l0_1 d1 _ ?side1 ?side2 ?side3 ?side4 A5.out).mono ?_);(case side1=> exact zr5);(case side2=>exact a6.out);(case side3=> exact zr11);(case side4=>exact c0.out);rintro e w7 ⟨rfl,hb⟩;replace a0:=zqm (blk_below (g:=a3) (o:= .cells #[.slice A0_0 l0_0.length c0_0,.slice A0_1 l0_1.length c0_1] 30 (0,0)) zr1 hb);replace HB:=zqm (below_step zr6 hb);clear hb))
     repeat(go_quiet (first|(go_at_call 42;(with_reducible refine(spec_LogicOk.calls k1 _ _ l0_0 _ _ l0_1 d1 _ ?side1 ?side2 ?side3 ?side4 A5.out).mono ?_);(case side1=> exact zr5);(case side2=>exact a6.out);(case side3=> exact zr11);(case side4=>exact c0.out);rintro e w7 ⟨rfl,hb⟩;replace a0:=zqm (blk_below (g:=a3) (o:= .cells #[.slice A0_0 l0_0.length c0_0,.slice A0_1 l0_1.length c0_1] 30 (0,0)) zr1 hb);replace HB:=zqm (below_step zr6 hb);clear hb));try go_wp2_with (first|(go_at_call 42;(with_reducible refine(spec_LogicOk.calls k1 _ _ l0_0 _ _ l0_1 d1 _ ?side1 ?side2 ?side3 ?side4 A5.out).mono ?_);(case side1=> exact zr5);(case side2=>exact a6.out);(case side3=> exact zr11);(case side4=>exact c0.out);rintro e w7 ⟨rfl,hb⟩;replace a0:=zqm (blk_below (g:=a3) (o:= .cells #[.slice A0_0 l0_0.length c0_0,.slice A0_1 l0_1.length c0_1] 30 (0,0)) zr1 hb);replace HB:=zqm (below_step zr6 hb);clear hb)))
     go_meet
     case rel=>exact⟨_,(d1),(by first|rfl|(simp;done)|(simp [*];done)),H',⟨by have:=c8.out;first|omega|exact Nat.le_refl _⟩,⟨zr1⟩,⟨zr6⟩⟩
    ·rw [if_neg c4] at H;have c1:decide (a1<(l0_1.length:Int))=false:=decide_eq_false c4;clear c4;(first|rw [c1]|(simp only [i64_w,i32_w];rw [c1])|skip);have H':=zqm H;clear H;have e7:wr.cell? ⟨a3,0,none⟩=some (.slice A0_0 l0_0.length c0_0):=(blk_cell a0.out 0).trans rfl;have e8:wr.cell? ⟨a3,1,none⟩=some (.slice A0_1 l0_1.length c0_1):=(blk_cell a0.out 1).trans rfl;have e9:=blk_frozen a0.out 0;have f0:=blk_frozen a0.out 1
     go_wp2
     repeat(go_quiet (fail);try go_wp2)
     go_meet
     case rel=>exact⟨_,(false),(by first|rfl|(simp;done)|(simp [*];done)),H',⟨by have:=c8.out;first|omega|exact Nat.le_refl _⟩,⟨zr1⟩,⟨zr6⟩⟩
   case rest=>
    clear g2;(try clear c2);(try clear p2);(try clear c4);(try clear c1);(try clear e3);(try clear e4);(try clear e7);(try clear e8);(try clear e5);(try clear e6);(try clear e9);(try clear f0);(try clear p2);obtain⟨kq,d0,rfl,HA,d7,a0,HB⟩:=hcut
    cases kq with
    |zero=>exact absurd HA.out (by simp [spec_KeepsOk.j1])
    |succ d2=>
     have H:=HA.out;clear HA;simp only [spec_KeepsOk.j1] at H
     by_cases c9:d0=true
     ·subst c9;(have H1:(spec_KeepsOk.l1 d2 a1 0 l0_0 l0_1)=some r:=by rw [if_pos rfl] at H;exact H);clear H;have H:=H1;clear H1;have H':=zqm H;clear H
      go_wp2
      repeat(go_quiet (fail);try go_wp2)
      go_loopg [4] d2 (fun kq v4 w'=> ∃(a2:Int),v4= .int .i64 a2∧Aside0 (spec_KeepsOk.l1 kq a1 a2 l0_0 l0_1=some r)∧Aside0 (kq≤d2)∧Aside0 (w'.heap[a3]? =some (.cells #[(.slice A0_0 l0_0.length c0_0),(.slice A0_1 l0_1.length c0_1)] 30 (0,0)))∧Aside0 (Below w.heap.size w w'))
      case atStart=>exact⟨(0),(by first|rfl|(simp;done)|(simp [*];done)),H',⟨Nat.le_refl _⟩,⟨zr1⟩,⟨zr6⟩⟩
      case round=>
       clear H';(try clear c2);(try clear p2);(try clear c4);(try clear c1);(try clear c9);(try clear e3);(try clear e4);(try clear e7);(try clear e8);(try clear e5);(try clear e6);(try clear e9);(try clear f0);(try clear p2);obtain⟨a2,rfl,HA,d8,a0,HB⟩:=hrel
       cases gk with
       |zero=>exact absurd HA.out (by simp [spec_KeepsOk.l1])
       |succ k3=>
        have H:=HA.out;clear HA;simp only [spec_KeepsOk.l1] at H
        by_cases d9:a2<(l0_1.length:Int)
        ·rw [if_pos d9] at H;have g7:decide (a2<(l0_1.length:Int))=true:=decide_eq_true d9;clear d9
         by_cases f5:0≤a1
         ·rw [if_pos f5] at H;have j7:decide (0≤a1)=true:=decide_eq_true f5;clear f5
          by_cases f6:a1<(l0_0.length:Int)
          ·rw [if_pos f6] at H;have j8:decide (a1<(l0_0.length:Int))=true:=decide_eq_true f6;clear f6
           by_cases f7:0≤a2
           ·rw [if_pos f7] at H;have j9:decide (0≤a2)=true:=decide_eq_true f7;clear f7
            by_cases f8:a2<((rd_L3 l0_0 a1).length:Int)
            ·rw [if_pos f8] at H;have k0:decide (a2<((rd_L3 l0_0 a1).length:Int))=true:=decide_eq_true f8;clear f8
             by_cases d3:(rd (rd_L3 l0_0 a1) a2)=1
             ·rw [if_pos d3] at H;have g8:((rd (rd_L3 l0_0 a1) a2)==1)=true:=beq_iff_eq.mpr d3;have g9:((rd (rd_L3 l0_0 a1) a2) !=1)=false:=bne_eq_false_iff_eq.mpr d3;clear d3
              by_cases f9:a1<(l0_1.length:Int)
              ·rw [if_pos f9] at H;have k2:decide (a1<(l0_1.length:Int))=true:=decide_eq_true f9;clear f9;replace H:=Option.bind_eq_some_iff.mp H;obtain⟨b2,g3,H⟩:=H;replace H:((spec_l1Join.f k3 l0_0 a1 b2).bind fun b1=>(if b1=a2 then(spec_KeepsOk.l1 k3 a1 (wrap64 (a2+1)) l0_0 l0_1) else(some false)))=some r:=H;have e0:=zqm g3;clear g3;replace H:=Option.bind_eq_some_iff.mp H;obtain⟨b1,g4,H⟩:=H;replace H:(if b1=a2 then(spec_KeepsOk.l1 k3 a1 (wrap64 (a2+1)) l0_0 l0_1) else(some false))=some r:=H;have e1:=zqm g4;clear g4
               by_cases d4:b1=a2
               ·rw [if_pos d4] at H;have h0:(b1==a2)=true:=beq_iff_eq.mpr d4;have h1:(b1 !=a2)=false:=bne_eq_false_iff_eq.mpr d4;clear d4;have H':=zqm H;clear H;have h5:wr.cell? ⟨a3,0,none⟩=some (.slice A0_0 l0_0.length c0_0):=(blk_cell a0.out 0).trans rfl;have h6:wr.cell? ⟨a3,1,none⟩=some (.slice A0_1 l0_1.length c0_1):=(blk_cell a0.out 1).trans rfl;have h7:=blk_frozen a0.out 0;have h8:=blk_frozen a0.out 1;have b4:0≤(a1:Int):=zqo;have b5:a1<(l0_0.length:Int):=zqo;obtain⟨g0,f1,f2,d5,a7,a9,b0⟩:=at_L3 a5.out a1 b4 b5
                cases d5
                replace a7:=(HB.out.cell (World.block_lt_of_cell? w _ a7)).trans a7;have b9:=zqm b0;have e2:=zqm a9;clear b0 a9;replace b4:=eq_true b4;replace b5:=eq_true b5;have b6:0≤(a2:Int):=zqo;have b7:a2<((rd_L3 l0_0 a1).length:Int):=zqo;obtain⟨g1,d6,a8⟩:=Kd.at_int b9.out a2 b6 b7
                cases d6
                replace a8:=(HB.out.cell (World.block_lt_of_cell? w _ a8)).trans a8;replace b6:=eq_true b6;replace b7:=eq_true b7;have c3:0≤(a1:Int):=zqo;have c5:a1<(l0_1.length:Int):=zqo;obtain⟨h2,f3,b3⟩:=Kd.at_int b8.out a1 c3 c5
                cases f3
                replace b3:=(HB.out.cell (World.block_lt_of_cell? w _ b3)).trans b3;replace c3:=eq_true c3;replace c5:=eq_true c5
                go_wp2_with (first|(go_at_call 81;(with_reducible refine(spec_l1Meet.calls k3 _ _ l0_0 a2 (rd l0_1 a1) b2 _ ?side1 ?side2 e0.out).mono ?_);(case side1=> exact zr5);(case side2=>exact a6.out);rintro e w' ⟨rfl,⟨nd,rfl⟩⟩;(try first|exact⟨rfl,_,World.drewN_drewN _ _ _⟩|exact⟨rfl,_,Eq.trans (World.drewN_drewN _ _ _) (congrArg (World.drewN _) (Nat.add_assoc _ _ _))⟩))|(go_at_call 82;(with_reducible refine(spec_l1Join.calls k3 _ _ l0_0 a1 b2 b1 _ ?side1 ?side2 e1.out).mono ?_);(case side1=> exact zr9);(case side2=>exact a6.out);rintro e w' ⟨rfl,⟨nd,rfl⟩⟩;(try first|exact⟨rfl,_,World.drewN_drewN _ _ _⟩|exact⟨rfl,_,Eq.trans (World.drewN_drewN _ _ _) (congrArg (World.drewN _) (Nat.add_assoc _ _ _))⟩)))
                repeat(go_quiet (first|(go_at_call 81;(with_reducible refine(spec_l1Meet.calls k3 _ _ l0_0 a2 (rd l0_1 a1) b2 _ ?side1 ?side2 e0.out).mono ?_);(case side1=> exact zr5);(case side2=>exact a6.out);rintro e w' ⟨rfl,⟨nd,rfl⟩⟩;(try first|exact⟨rfl,_,World.drewN_drewN _ _ _⟩|exact⟨rfl,_,Eq.trans (World.drewN_drewN _ _ _) (congrArg (World.drewN _) (Nat.add_assoc _ _ _))⟩))|(go_at_call 82;(with_reducible refine(spec_l1Join.calls k3 _ _ l0_0 a1 b2 b1 _ ?side1 ?side2 e1.out).mono ?_);(case side1=> exact zr9);(case side2=>exact a6.out);rintro e w' ⟨rfl,⟨nd,rfl⟩⟩;(try first|exact⟨rfl,_,World.drewN_drewN _ _ _⟩|exact⟨rfl,_,Eq.trans (World.drewN_drewN _ _ _) (congrArg (World.drewN _) (Nat.add_assoc _ _ _))⟩)));try go_wp2_with (first|(go_at_call 81;(with_reducible refine(spec_l1Meet.calls k3 _ _ l0_0 a2 (rd l0_1 a1) b2 _ ?side1 ?side2 e0.out).mono ?_);(case side1=> exact zr5);(case side2=>exact a6.out);rintro e w' ⟨rfl,⟨nd,rfl⟩⟩;(try first|exact⟨rfl,_,World.drewN_drewN _ _ _⟩|exact⟨rfl,_,Eq.trans (World.drewN_drewN _ _ _) (congrArg (World.drewN _) (Nat.add_assoc _ _ _))⟩))|(go_at_call 82;(with_reducible refine(spec_l1Join.calls k3 _ _ l0_0 a1 b2 b1 _ ?side1 ?side2 e1.out).mono ?_);(case side1=> exact zr9);(case side2=>exact a6.out);rintro e w' ⟨rfl,⟨nd,rfl⟩⟩;(try first|exact⟨rfl,_,World.drewN_drewN _ _ _⟩|exact⟨rfl,_,Eq.trans (World.drewN_drewN _ _ _) (congrArg (World.drewN _) (Nat.add_assoc _ _ _))⟩))))
                go_roundg k3
                (case measure=> exact zr60);case rel=>exact⟨(wrap64 (a2+1)),(by first|rfl|(simp;done)|(simp [*];done)),H',⟨zr60⟩,⟨zr1⟩,⟨zr6⟩⟩
               ·rw [if_neg d4] at H;have h0:(b1==a2)=false:=beq_eq_false_iff_ne.mpr d4;have h1:(b1 !=a2)=true:=bne_iff_ne.mpr d4;obtain rfl:=Option.some.inj H;have h9:wr.cell? ⟨a3,0,none⟩=some (.slice A0_0 l0_0.length c0_0):=(blk_cell a0.out 0).trans rfl;have i0:wr.cell? ⟨a3,1,none⟩=some (.slice A0_1 l0_1.length c0_1):=(blk_cell a0.out 1).trans rfl;have i1:=blk_frozen a0.out 0;have i2:=blk_frozen a0.out 1;have b4:0≤(a1:Int):=zqo;have b5:a1<(l0_0.length:Int):=zqo;obtain⟨g0,f1,f2,d5,a7,a9,b0⟩:=at_L3 a5.out a1 b4 b5
                cases d5
                replace a7:=(HB.out.cell (World.block_lt_of_cell? w _ a7)).trans a7;have b9:=zqm b0;have e2:=zqm a9;clear b0 a9;replace b4:=eq_true b4;replace b5:=eq_true b5;have b6:0≤(a2:Int):=zqo;have b7:a2<((rd_L3 l0_0 a1).length:Int):=zqo;obtain⟨g1,d6,a8⟩:=Kd.at_int b9.out a2 b6 b7
                cases d6
                replace a8:=(HB.out.cell (World.block_lt_of_cell? w _ a8)).trans a8;replace b6:=eq_true b6;replace b7:=eq_true b7;have c3:0≤(a1:Int):=zqo;have c5:a1<(l0_1.length:Int):=zqo;obtain⟨h2,f3,b3⟩:=Kd.at_int b8.out a1 c3 c5
                cases f3
                replace b3:=(HB.out.cell (World.block_lt_of_cell? w _ b3)).trans b3;replace c3:=eq_true c3;replace c5:=eq_true c5
                go_wp2_with (first|(go_at_call 81;(with_reducible refine(spec_l1Meet.calls k3 _ _ l0_0 a2 (rd l0_1 a1) b2 _ ?side1 ?side2 e0.out).mono ?_);(case side1=> exact zr5);(case side2=>exact a6.out);rintro e w' ⟨rfl,⟨nd,rfl⟩⟩;(try first|exact⟨rfl,_,World.drewN_drewN _ _ _⟩|exact⟨rfl,_,Eq.trans (World.drewN_drewN _ _ _) (congrArg (World.drewN _) (Nat.add_assoc _ _ _))⟩))|(go_at_call 82;(with_reducible refine(spec_l1Join.calls k3 _ _ l0_0 a1 b2 b1 _ ?side1 ?side2 e1.out).mono ?_);(case side1=> exact zr9);(case side2=>exact a6.out);rintro e w' ⟨rfl,⟨nd,rfl⟩⟩;(try first|exact⟨rfl,_,World.drewN_drewN _ _ _⟩|exact⟨rfl,_,Eq.trans (World.drewN_drewN _ _ _) (congrArg (World.drewN _) (Nat.add_assoc _ _ _))⟩)))
                repeat(go_quiet (first|(go_at_call 81;(with_reducible refine(spec_l1Meet.calls k3 _ _ l0_0 a2 (rd l0_1 a1) b2 _ ?side1 ?side2 e0.out).mono ?_);(case side1=> exact zr5);(case side2=>exact a6.out);rintro e w' ⟨rfl,⟨nd,rfl⟩⟩;(try first|exact⟨rfl,_,World.drewN_drewN _ _ _⟩|exact⟨rfl,_,Eq.trans (World.drewN_drewN _ _ _) (congrArg (World.drewN _) (Nat.add_assoc _ _ _))⟩))|(go_at_call 82;(with_reducible refine(spec_l1Join.calls k3 _ _ l0_0 a1 b2 b1 _ ?side1 ?side2 e1.out).mono ?_);(case side1=> exact zr9);(case side2=>exact a6.out);rintro e w' ⟨rfl,⟨nd,rfl⟩⟩;(try first|exact⟨rfl,_,World.drewN_drewN _ _ _⟩|exact⟨rfl,_,Eq.trans (World.drewN_drewN _ _ _) (congrArg (World.drewN _) (Nat.add_assoc _ _ _))⟩)));try go_wp2_with (first|(go_at_call 81;(with_reducible refine(spec_l1Meet.calls k3 _ _ l0_0 a2 (rd l0_1 a1) b2 _ ?side1 ?side2 e0.out).mono ?_);(case side1=> exact zr5);(case side2=>exact a6.out);rintro e w' ⟨rfl,⟨nd,rfl⟩⟩;(try first|exact⟨rfl,_,World.drewN_drewN _ _ _⟩|exact⟨rfl,_,Eq.trans (World.drewN_drewN _ _ _) (congrArg (World.drewN _) (Nat.add_assoc _ _ _))⟩))|(go_at_call 82;(with_reducible refine(spec_l1Join.calls k3 _ _ l0_0 a1 b2 b1 _ ?side1 ?side2 e1.out).mono ?_);(case side1=> exact zr9);(case side2=>exact a6.out);rintro e w' ⟨rfl,⟨nd,rfl⟩⟩;(try first|exact⟨rfl,_,World.drewN_drewN _ _ _⟩|exact⟨rfl,_,Eq.trans (World.drewN_drewN _ _ _) (congrArg (World.drewN _) (Nat.add_assoc _ _ _))⟩))))
                go_ret
                exact⟨zr12,zr6⟩
              ·rw [if_neg f9] at H;exact absurd H (by simp)
             ·rw [if_neg d3] at H;have g8:((rd (rd_L3 l0_0 a1) a2)==1)=false:=beq_eq_false_iff_ne.mpr d3;have g9:((rd (rd_L3 l0_0 a1) a2) !=1)=true:=bne_iff_ne.mpr d3;have H':=zqm H;clear H;have i3:wr.cell? ⟨a3,0,none⟩=some (.slice A0_0 l0_0.length c0_0):=(blk_cell a0.out 0).trans rfl;have i4:wr.cell? ⟨a3,1,none⟩=some (.slice A0_1 l0_1.length c0_1):=(blk_cell a0.out 1).trans rfl;have i5:=blk_frozen a0.out 0;have i6:=blk_frozen a0.out 1;have b4:0≤(a1:Int):=zqo;have b5:a1<(l0_0.length:Int):=zqo;obtain⟨g0,f1,f2,d5,a7,a9,b0⟩:=at_L3 a5.out a1 b4 b5
              cases d5
              replace a7:=(HB.out.cell (World.block_lt_of_cell? w _ a7)).trans a7;have b9:=zqm b0;have e2:=zqm a9;clear b0 a9;replace b4:=eq_true b4;replace b5:=eq_true b5;have b6:0≤(a2:Int):=zqo;have b7:a2<((rd_L3 l0_0 a1).length:Int):=zqo;obtain⟨g1,d6,a8⟩:=Kd.at_int b9.out a2 b6 b7
              cases d6
              replace a8:=(HB.out.cell (World.block_lt_of_cell? w _ a8)).trans a8;replace b6:=eq_true b6;replace b7:=eq_true b7
              go_wp2
              repeat(go_quiet (fail);try go_wp2)
              go_roundg k3
              (case measure=> exact zr60);case rel=>exact⟨(wrap64 (a2+1)),(by first|rfl|(simp;done)|(simp [*];done)),H',⟨zr60⟩,⟨zr1⟩,⟨zr6⟩⟩
            ·rw [if_neg f8] at H;exact absurd H (by simp)
           ·rw [if_neg f7] at H;exact absurd H (by simp)
          ·rw [if_neg f6] at H;exact absurd H (by simp)
         ·rw [if_neg f5] at H;exact absurd H (by simp)
        ·rw [if_neg d9] at H;have g7:decide (a2<(l0_1.length:Int))=false:=decide_eq_false d9;clear d9;have H':=zqm H;clear H;have i7:wr.cell? ⟨a3,0,none⟩=some (.slice A0_0 l0_0.length c0_0):=(blk_cell a0.out 0).trans rfl;have i8:wr.cell? ⟨a3,1,none⟩=some (.slice A0_1 l0_1.length c0_1):=(blk_cell a0.out 1).trans rfl;have i9:=blk_frozen a0.out 0;have j0:=blk_frozen a0.out 1
         go_wp2
         repeat(go_quiet (fail);try go_wp2)
         go_roundg k3
         (case measure=> exact zr60);case rel=>exact⟨(wrap64 (a1+1)),(by first|rfl|(simp;done)|(simp [*];done)),H',⟨zr60⟩,⟨zr1⟩,⟨zr6⟩⟩
     ·replace c9:=Bool.eq_false_iff.mpr c9;subst c9;(have H1:((spec_LogicOk.f d2 l0_0 l0_1).bind fun c6=>(some c6))=some r:=by rw [if_neg (show¬(false=true) by decide)] at H;exact H);clear H;have H:=H1;clear H1;replace H:=Option.bind_eq_some_iff.mp H;obtain⟨c6,g5,H⟩:=H;replace H:(some c6)=some r:=H;have g6:=zqm g5;clear g5;obtain rfl:=Option.some.inj H;have j2:wc.cell? ⟨a3,0,none⟩=some (.slice A0_0 l0_0.length c0_0):=(blk_cell a0.out 0).trans rfl;have j3:wc.cell? ⟨a3,1,none⟩=some (.slice A0_1 l0_1.length c0_1):=(blk_cell a0.out 1).trans rfl;have j4:=blk_frozen a0.out 0;have j5:=blk_frozen a0.out 1
      go_wp2_with (first|(go_at_call 42;(with_reducible refine(spec_LogicOk.calls d2 _ _ l0_0 _ _ l0_1 c6 _ ?side1 ?side2 ?side3 ?side4 g6.out).mono ?_);(case side1=> exact zr5);(case side2=>exact a6.out);(case side3=> exact zr11);(case side4=>exact c0.out);rintro e h4 ⟨rfl,hb⟩;replace a0:=zqm (blk_below (g:=a3) (o:= .cells #[.slice A0_0 l0_0.length c0_0,.slice A0_1 l0_1.length c0_1] 30 (0,0)) zr1 hb);replace HB:=zqm (below_step zr6 hb);clear hb))
      repeat(go_quiet (first|(go_at_call 42;(with_reducible refine(spec_LogicOk.calls d2 _ _ l0_0 _ _ l0_1 c6 _ ?side1 ?side2 ?side3 ?side4 g6.out).mono ?_);(case side1=> exact zr5);(case side2=>exact a6.out);(case side3=> exact zr11);(case side4=>exact c0.out);rintro e h4 ⟨rfl,hb⟩;replace a0:=zqm (blk_below (g:=a3) (o:= .cells #[.slice A0_0 l0_0.length c0_0,.slice A0_1 l0_1.length c0_1] 30 (0,0)) zr1 hb);replace HB:=zqm (below_step zr6 hb);clear hb));try go_wp2_with (first|(go_at_call 42;(with_reducible refine(spec_LogicOk.calls d2 _ _ l0_0 _ _ l0_1 c6 _ ?side1 ?side2 ?side3 ?side4 g6.out).mono ?_);(case side1=> exact zr5);(case side2=>exact a6.out);(case side3=> exact zr11);(case side4=>exact c0.out);rintro e h4 ⟨rfl,hb⟩;replace a0:=zqm (blk_below (g:=a3) (o:= .cells #[.slice A0_0 l0_0.length c0_0,.slice A0_1 l0_1.length c0_1] 30 (0,0)) zr1 hb);replace HB:=zqm (below_step zr6 hb);clear hb)))
      go_ret
      exact⟨zr12,zr6⟩
end Go.Proofs.Ytdoomkcgdcfmlaa.Print
end
section
namespace Go.Proofs.Ytdoomkcgdcfmlaa.Print
open Go.RowKit Go.Proofs.YtdoomkcgdcfmlaaW.PrintWords Go.Proofs.YtdoomkcgdcfmlaaW.PrintLast Go.Proofs.YtdoomkcgdcfmlaaW.PrintMore
def laws_hasInt.l0 : Nat → List Int → Int → Int → Option (Bool)
 | 0, _, _, _ => none
 | k + 1, x0, x1, x5 => if x5 < (x0.length : Int) then (if 0 ≤ x5 then (if (rd x0 x5) = x1 then (some true) else (laws_hasInt.l0 k x0 x1 (wrap64 (x5 + 1)))) else (none)) else (some false)
def laws_hasInt.f (k : Nat) (l0 : List Int) (a1 : Int) : Option (Bool) := laws_hasInt.l0 k l0 a1 0
set_option maxHeartbeats 8000000 in
set_option maxRecDepth 100000 in
theorem laws_hasInt.calls (k : Nat) (A0 : Option Addr) (c0 : Nat) (l0 : List Int) (a1 : Int) (r : Bool) (w : World) (hr0 : Kd.C (Kd.int .i64) w A0 l0.length l0) (hc0 : l0.length ≤ c0) (h : laws_hasInt.f k l0 a1 = some r) :
  Calls Try.prog 48 #[.slice A0 l0.length c0, .int .i64 a1] w fun e w' => e = .returned (.bool r) ∧ Drawn0 w w' := by
 have HR0:=zqm hr0;have HC0:=zqm hc0;clear hr0 hc0;have H:(laws_hasInt.l0 k l0 a1 0)=some r:=h;clear h;have H':=zqm H;clear H
 go_enter Try.func48,Try.ntmps48
 go_wp2
 go_loopg [5] k (fun kq v5 w'=> ∃(x5_1:Int),v5= .int .i64 x5_1∧Aside0 (laws_hasInt.l0 kq l0 a1 x5_1=some r)∧Aside0 (kq≤k)∧Drawn0 w w')
 case atStart=>exact⟨(0),(by first|rfl|(simp;done)|(simp [*];done)),H',⟨Nat.le_refl _⟩,zr30⟩
 case round=>
  clear H';(try clear p2);obtain⟨x5_1,rfl,HA,HK1,⟨m1,rfl⟩⟩:=hrel
  cases gk with
  |zero=>exact absurd HA.out (by simp [laws_hasInt.l0])
  |succ k1=>
   have H:=HA.out;clear HA;simp only [laws_hasInt.l0] at H
   by_cases c3:x5_1<(l0.length:Int)
   ·rw [if_pos c3] at H;have c3b0:decide (x5_1<(l0.length:Int))=true:=decide_eq_true c3;clear c3
    by_cases c4:0≤x5_1
    ·rw [if_pos c4] at H;have c4b0:decide (0≤x5_1)=true:=decide_eq_true c4;clear c4
     by_cases c5:(rd l0 x5_1)=a1
     ·rw [if_pos c5] at H;have c5b0:((rd l0 x5_1)==a1)=true:=beq_iff_eq.mpr c5;have c5b1:((rd l0 x5_1) !=a1)=false:=bne_eq_false_iff_eq.mpr c5;clear c5;obtain rfl:=Option.some.inj H;have p854:0≤(x5_1:Int):=zqo;have q854:x5_1<(l0.length:Int):=zqo;obtain⟨ad854,e854,hx854_0⟩:=Kd.at_int HR0.out x5_1 p854 q854
      cases e854
      replace p854:=eq_true p854;replace q854:=eq_true q854
      go_wp2
      go_ret
      exact⟨by first|rfl|(simp;done)|(simp [*];done),zr30⟩
     ·rw [if_neg c5] at H;have c5b0:((rd l0 x5_1)==a1)=false:=beq_eq_false_iff_ne.mpr c5;have c5b1:((rd l0 x5_1) !=a1)=true:=bne_iff_ne.mpr c5;have H':=zqm H;clear H;have p854:0≤(x5_1:Int):=zqo;have q854:x5_1<(l0.length:Int):=zqo;obtain⟨ad854,e854,hx854_0⟩:=Kd.at_int HR0.out x5_1 p854 q854
      cases e854
      replace p854:=eq_true p854;replace q854:=eq_true q854
      go_wp2
      go_roundg k1
      (case measure=>have:=HK1.out;omega);case rel=>exact⟨(wrap64 (x5_1+1)),(by first|rfl|(simp;done)|(simp [*];done)),H',⟨by have:=HK1.out;omega⟩,zr30⟩
    ·rw [if_neg c4] at H;exact absurd H (by simp)
   ·rw [if_neg c3] at H;have c3b0:decide (x5_1<(l0.length:Int))=false:=decide_eq_false c3;clear c3;obtain rfl:=Option.some.inj H
    go_wp2
    go_ret
    exact⟨by first|rfl|(simp;done)|(simp [*];done),zr30⟩
def spec_l20Two.f (k : Nat) (s0_0 : List Int) (s0_1 : Int) (a1 : Int) : Option ((List (List Int)) × List Int × Int × Int × Int) := (spec_l20Logic.f k s0_0 s0_1 a1).bind fun bt468 => ((spec_l20Rd_pick.f k s0_0 bt468.2.2 (mx (bt468.2.1.length : Int) 1)).bind fun bt476 => ((spec_l20Rd_pick.f k s0_0 bt476.2 40).bind fun bt478 => ((spec_l20Rd_pick.f k s0_0 bt478.2 (mx (bt468.2.1.length : Int) 1)).bind fun bt480 => ((spec_l20Rd_pick.f k s0_0 bt480.2 40).bind fun bt482 => (some (bt468.1, bt468.2.1, wrap64 (bt476.1 + (wrap64 ((wrap64 (Int.tdiv bt478.1 39)) * 12))), wrap64 (bt480.1 - (wrap64 ((wrap64 (Int.tdiv bt482.1 39)) * 12))), bt482.2))))))
def spec_l20Two.T3 : Bool × List (List Nat × List Nat) := (true, [([], []), ([], []), ([], []), ([1, 2], [1, 2]), ([], []), ([4, 3], [4]), ([5], [5]), ([6], [6]), ([3, 7], [3, 7]), ([], []), ([], []), ([9, 10, 5], [9, 10]), ([], []), ([12, 11], [12]), ([13], [13]), ([14], [14]), ([11, 15], [11, 15]), ([0, 13, 0], [0]), ([8, 17, 0, 1, 2, 3, 4, 5, 6, 7, 8, 17], [8]), ([16, 18, 0, 1, 2, 3, 4, 5, 6, 7, 8, 9, 10, 11, 12, 13, 14, 15, 16, 17, 18], [16])])
def spec_l20Two.B3 : List Nat := [0, 0, 0, 6, 0, 30, 62, 126, 254, 0, 0, 1598, 0, 7742, 15934, 32318, 65086, 15935, 147455, 524287]
theorem spec_l20Two.tab3 : rtab .any (opsOf Try.f76 3) = spec_l20Two.T3 := by kernel_rfl
theorem spec_l20Two.bits3 : waitsOk spec_l20Two.T3.2 spec_l20Two.B3 = true := by kernel_rfl
set_option maxHeartbeats 8000000 in
set_option maxRecDepth 100000 in
theorem spec_l20Two.calls (k : Nat) (g : Nat) (s0_0 : List Int) (s0_1 : Int) (a1 : Int) (r1 : List (List Int)) (r2 : List Int) (r3 : Int) (r4 : Int) (r5 : Int) (w0 w : World) (hI : IsS87 w0 w g s0_0 s0_1) (hB : Below w0.heap.size w0 w) (h : spec_l20Two.f k s0_0 s0_1 a1 = some (r1, r2, r3, r4, r5)) :
  Calls Try.prog 76 #[.pointer (some ⟨g, 0, none⟩), .int .i64 a1] w fun e w' => ∃ v0_ v1_ : Value, e = .returned (.tuple #[.agg #[v0_, v1_], .int .i64 r3, .int .i64 r4]) ∧ Kd.S (Kd.slice 3 (Kd.int .i64)) 28 w' w.heap.size (fun k_ => some k_ ≠ (v1_ : Value).ownBlock) v0_ r1 ∧ Kd.Q (Kd.int .i64) 3 w' w.heap.size (fun _ => True) v1_ r2 ∧ IsS87 w0 w' g s0_0 r5 ∧ Below w0.heap.size w0 w' ∧ KeepBut w w' g none := by
 have hu30:=Try.underlying30;have a0:=zqm hI;have HK:=zqm (KeepBut.refl w g none);have HL:=zqm hB.size;clear hI;have e8:=zqm hB.size;have HB:=zqm hB;clear hB;have H:((spec_l20Logic.f k s0_0 s0_1 a1).bind fun d2=>((spec_l20Rd_pick.f k s0_0 d2.2.2 (mx (d2.2.1.length:Int) 1)).bind fun c2=>((spec_l20Rd_pick.f k s0_0 c2.2 40).bind fun c0=>((spec_l20Rd_pick.f k s0_0 c0.2 (mx (d2.2.1.length:Int) 1)).bind fun b7=>((spec_l20Rd_pick.f k s0_0 b7.2 40).bind fun b2=>(some (d2.1,d2.2.1,wrap64 (c2.1+(wrap64 ((wrap64 (Int.tdiv c0.1 39))*12))),wrap64 (b7.1 - (wrap64 ((wrap64 (Int.tdiv b2.1 39))*12))),b2.2)))))))=some (r1,r2,r3,r4,r5):=h;clear h;replace H:=Option.bind_eq_some_iff.mp H;obtain⟨⟨a8,a4,c6⟩,e9,H⟩:=H;replace H:((spec_l20Rd_pick.f k s0_0 c6 (mx (a4.length:Int) 1)).bind fun c2=>((spec_l20Rd_pick.f k s0_0 c2.2 40).bind fun c0=>((spec_l20Rd_pick.f k s0_0 c0.2 (mx (a4.length:Int) 1)).bind fun b7=>((spec_l20Rd_pick.f k s0_0 b7.2 40).bind fun b2=>(some (a8,a4,wrap64 (c2.1+(wrap64 ((wrap64 (Int.tdiv c0.1 39))*12))),wrap64 (b7.1 - (wrap64 ((wrap64 (Int.tdiv b2.1 39))*12))),b2.2))))))=some (r1,r2,r3,r4,r5):=H;have A3:=zqm e9;clear e9;obtain⟨c7,c8⟩: ∃j_:Int,(mx (a4.length:Int) 1)=j_:=⟨_,rfl⟩;(replace H:((spec_l20Rd_pick.f k s0_0 c6 (c7)).bind fun c2=>((spec_l20Rd_pick.f k s0_0 c2.2 40).bind fun c0=>((spec_l20Rd_pick.f k s0_0 c0.2 (c7)).bind fun b7=>((spec_l20Rd_pick.f k s0_0 b7.2 40).bind fun b2=>(some (a8,a4,wrap64 (c2.1+(wrap64 ((wrap64 (Int.tdiv c0.1 39))*12))),wrap64 (b7.1 - (wrap64 ((wrap64 (Int.tdiv b2.1 39))*12))),b2.2))))))=some (r1,r2,r3,r4,r5):=by first|(rw [c8] at H;exact H)|(simp only [c8] at H ⊢;exact H));(try rw [c8] at A3);(try(have hji4l:1≤c7:=by(rw [← c8];unfold mx;(repeat' split) <;> omega)));(try(have hji4m:0≤c7:=by omega));have g4:(if(a4.length:Int)<1 then 1 else(a4.length:Int))=c7:=c8;replace H:=Option.bind_eq_some_iff.mp H;obtain⟨⟨d3,d4⟩,f0,H⟩:=H;replace H:((spec_l20Rd_pick.f k s0_0 d4 40).bind fun c0=>((spec_l20Rd_pick.f k s0_0 c0.2 (c7)).bind fun b7=>((spec_l20Rd_pick.f k s0_0 b7.2 40).bind fun b2=>(some (a8,a4,wrap64 (d3+(wrap64 ((wrap64 (Int.tdiv c0.1 39))*12))),wrap64 (b7.1 - (wrap64 ((wrap64 (Int.tdiv b2.1 39))*12))),b2.2)))))=some (r1,r2,r3,r4,r5):=H;have A5:=zqm f0;clear f0;replace H:=Option.bind_eq_some_iff.mp H;obtain⟨⟨e2,d5⟩,f1,H⟩:=H;replace H:((spec_l20Rd_pick.f k s0_0 d5 (c7)).bind fun b7=>((spec_l20Rd_pick.f k s0_0 b7.2 40).bind fun b2=>(some (a8,a4,wrap64 (d3+(wrap64 ((wrap64 (Int.tdiv e2 39))*12))),wrap64 (b7.1 - (wrap64 ((wrap64 (Int.tdiv b2.1 39))*12))),b2.2))))=some (r1,r2,r3,r4,r5):=H;have A6:=zqm f1;clear f1;replace H:=Option.bind_eq_some_iff.mp H;obtain⟨⟨e3,d6⟩,f2,H⟩:=H;replace H:((spec_l20Rd_pick.f k s0_0 d6 40).bind fun b2=>(some (a8,a4,wrap64 (d3+(wrap64 ((wrap64 (Int.tdiv e2 39))*12))),wrap64 (e3 - (wrap64 ((wrap64 (Int.tdiv b2.1 39))*12))),b2.2)))=some (r1,r2,r3,r4,r5):=H;have A7:=zqm f2;clear f2;replace H:=Option.bind_eq_some_iff.mp H;obtain⟨⟨e4,e5⟩,f3,H⟩:=H;replace H:(some (a8,a4,wrap64 (d3+(wrap64 ((wrap64 (Int.tdiv e2 39))*12))),wrap64 (e3 - (wrap64 ((wrap64 (Int.tdiv e4 39))*12))),e5))=some (r1,r2,r3,r4,r5):=H;have A8:=zqm f3;clear f3;simp only [Option.some.injEq,Prod.mk.injEq] at H;obtain⟨rfl,rfl,rfl,rfl,rfl⟩:=H
 go_enter Try.func76,Try.ntmps76
 (try go_wp2_with (first|((with_reducible refine gate_dst (N:=4) rfl ?_);refine box_event ?hg (N:=4) ?hd (cs:= #[.slice none 0 0,.slice none 0 0]) (t:=30) ?hr ?_;(case hd=>rfl);(case hg=>rfl);(case hr=>first|(go_simp;done)|(go_simp;rfl));intro a5 hg w9 hbox hb;have d7:=zqm (IsS87.below (by repeat(first|(with_reducible first|exact a0.out|apply IsS87.alloc|apply IsS87.drewN|apply IsS87.drew|apply IsS87.set_1)|exact a0.out)) hb);have d8:=zqm (KeepBut.trans zr48 (KeepBut.of_below hb g none) (.inl rfl));replace HB:=zqm (below_step (by repeat(first|(with_reducible first|exact HB.out|apply below_alloc|apply pw_below_drewN|apply below_drew1|refine below_set ?_ (IsS87.ge a0.out))|exact HB.out)) hb);have a6:=zqm (hbox);have b9:=zqm ((by rw [hg];exact(keep_size (w:=w) (g:=g) (row:=none) zr48):w.heap.size≤a5));have c3:=zqm ((Nat.le_trans e8.out (by rw [hg];exact(keep_size (w:=w) (g:=g) (row:=none) zr48):w.heap.size≤a5):w0.heap.size≤a5));have a7:=zqm ((by rw [hg];exact Nat.ne_of_lt (IsS87.lt (show IsS87 w0 _ g s0_0 s0_1 from by repeat(first|(with_reducible first|exact a0.out|apply IsS87.alloc|apply IsS87.drewN|apply IsS87.drew|apply IsS87.set_1)|exact a0.out))):g≠a5));have c4:=zqm ((by rw [hg];exact Nat.ne_of_gt (IsS87.lt (show IsS87 w0 _ g s0_0 s0_1 from by repeat(first|(with_reducible first|exact a0.out|apply IsS87.alloc|apply IsS87.drewN|apply IsS87.drew|apply IsS87.set_1)|exact a0.out))):a5≠g));clear a0 HK;have a0:=d7;have HK:=d8;clear d7 d8 hb hbox hg)|((with_reducible refine gate_callee (f:=85) rfl ?_);refine goesL_ (some 11) rfl rfl Try.func85 zqk rfl #[.pointer (some ⟨g,0,none⟩),.int .i64 a1] rfl zr2 ?_;(with_reducible refine(spec_l20Logic.calls k g s0_0 s0_1 a1 a8 a4 c6 w0 _ ?side1 ?side2 A3.out).mono ?_);(case side1=> exact zr54);(case side2=> exact zr50);rintro e h1 ⟨g9,h0,rfl,f4,f5,hi,hb,hk⟩;refine⟨_,rfl,?_⟩;replace a6:=zqm (KeepBut.blk hk (g':=a5) (o:= .cells #[.slice none 0 0,.slice none 0 0] 30 (0,0)) zr28 c4.out (by simp));have b3:=zqm (Kd.S_lower f4 (keep_size (w:=w) (g:=g) (row:=none) zr23));have b4:=zqm (Kd.Q_lower f5 (keep_size (w:=w) (g:=g) (row:=none) zr23));replace HK:=zqm (KeepBut.trans zr23 hk (.inl rfl));replace HB:=zqm (hb);replace a0:=zqm (hi);clear hb hk hi f4 f5)|((with_reducible refine gate_dst (N:=7) rfl ?_);refine box_event ?hg (N:=7) ?hd (cs:= #[.slice none 0 0,.slice none 0 0]) (t:=30) ?hr ?_;(case hd=>rfl);(case hg=>rfl);(case hr=>first|(go_simp;done)|(go_simp;rfl));intro a2 hg d1 hbox hb;replace b3:=zqm (Kd.S_below zr45 hb);replace b4:=zqm (Kd.Q_below zr44 hb);have d9:=zqm (IsS87.below zr54 hb);have e0:=zqm (blk_below (g:=a5) (o:= .cells #[.slice none 0 0,.slice none 0 0] 30 (0,0)) zr28 hb);have e1:=zqm (KeepBut.trans zr23 (KeepBut.of_below hb g none) (.inl rfl));replace HB:=zqm (below_step zr50 hb);have a3:=zqm (hbox);have c9:=zqm ((by rw [hg];exact(keep_size (w:=w) (g:=g) (row:=none) zr23):w.heap.size≤a2));have d0:=zqm ((Nat.le_trans e8.out (by rw [hg];exact(keep_size (w:=w) (g:=g) (row:=none) zr23):w.heap.size≤a2):w0.heap.size≤a2));have c1:=zqm ((by rw [hg];exact Nat.ne_of_lt (blk_lt (g:=a5) (o:= .cells #[.slice none 0 0,.slice none 0 0] 30 (0,0)) zr28):a5≠a2));have b8:=zqm ((by rw [hg];exact Nat.ne_of_gt (blk_lt (g:=a5) (o:= .cells #[.slice none 0 0,.slice none 0 0] 30 (0,0)) zr28):a2≠a5));have a9:=zqm ((by rw [hg];exact Nat.ne_of_lt (IsS87.lt (show IsS87 w0 _ g s0_0 c6 from by repeat(first|(with_reducible first|exact a0.out|apply IsS87.alloc|apply IsS87.drewN|apply IsS87.drew|apply IsS87.set_1|refine IsS87.far ?_ a7.out _)|exact a0.out))):g≠a2));have c5:=zqm ((by rw [hg];exact Nat.ne_of_gt (IsS87.lt (show IsS87 w0 _ g s0_0 c6 from by repeat(first|(with_reducible first|exact a0.out|apply IsS87.alloc|apply IsS87.drewN|apply IsS87.drew|apply IsS87.set_1|refine IsS87.far ?_ a7.out _)|exact a0.out))):a2≠g));clear a0 a6 HK;have a0:=d9;have a6:=e0;have HK:=e1;clear d9 e0 e1 hb hbox hg;obtain⟨b0,b1,f7⟩:=Kd.S_slice b3.out;subst f7;have g5:=b8.out;have g6:=c1.out;have g7:=c5.out;have g8:=a9.out;have f9:d1.cell? ⟨a2,0,none⟩=some (.slice none 0 0):=(blk_cell a3.out 0).trans rfl;have g0:d1.cell? ⟨a2,1,none⟩=some (.slice none 0 0):=(blk_cell a3.out 1).trans rfl;have g1:=blk_frozen a3.out 0;have g2:=blk_frozen a3.out 1;obtain⟨b5,b6,f8,_⟩:=Kd.Q_slice b4.out;subst f8)))
 have d7:Aside0 (Kd.S (Kd.slice 3 (Kd.int .i64)) 28 ((d1.setCell ⟨a2,0,none⟩ (.slice b0 a8.length b1)).setCell ⟨a2,1,none⟩ (.slice b5 a4.length b6)) w.heap.size (fun k_=>some k_≠(.slice b5 a4.length b6:Value).ownBlock) (.slice b0 a8.length b1) a8):=⟨by(with_reducible repeat(first|apply Kd.S_alloc|apply Kd.S_drewN|apply Kd.S_drew));exact Kd.S_mono (Kd.S_far (p:=⟨a2,1,none⟩) (Kd.S_far (p:=⟨a2,0,none⟩) (Kd.S_types b3.out a3.out (by decide)) (fun _ hk=>hk.2) (.slice b0 a8.length b1)) (fun _ hk=>hk.2) (.slice b5 a4.length b6)) (fun _ hk=>hk.1)⟩;have d8:Aside0 (Kd.Q (Kd.int .i64) 3 ((d1.setCell ⟨a2,0,none⟩ (.slice b0 a8.length b1)).setCell ⟨a2,1,none⟩ (.slice b5 a4.length b6)) w.heap.size (fun _=>True) (.slice b5 a4.length b6) a4):=⟨by(with_reducible repeat(first|apply Kd.Q_alloc|apply Kd.Q_drewN|apply Kd.Q_drew));exact Kd.Q_mono (Kd.Q_far (p:=⟨a2,1,none⟩) (Kd.Q_far (p:=⟨a2,0,none⟩) (Kd.Q_types b4.out a3.out (by decide)) (fun _ hk=>hk.2) (.slice b0 a8.length b1)) (fun _ hk=>hk.2) (.slice b5 a4.length b6)) (fun _ hk=>trivial)⟩;have d9:Aside0 (((d1.setCell ⟨a2,0,none⟩ (.slice b0 a8.length b1)).setCell ⟨a2,1,none⟩ (.slice b5 a4.length b6)).heap[a5]? =some (.cells #[.slice none 0 0,.slice none 0 0] 30 (0,0))):=⟨by(with_reducible repeat(first|refine blk_drewN ?_ _|refine blk_drew ?_|refine blk_alloc ?_ _));refine blk_far ?_ c1.out _;(with_reducible repeat(first|refine blk_drewN ?_ _|refine blk_drew ?_|refine blk_alloc ?_ _));refine blk_far ?_ c1.out _;(with_reducible repeat(first|refine blk_drewN ?_ _|refine blk_drew ?_|refine blk_alloc ?_ _));exact a6.out⟩;have e0:Aside0 (((d1.setCell ⟨a2,0,none⟩ (.slice b0 a8.length b1)).setCell ⟨a2,1,none⟩ (.slice b5 a4.length b6)).heap[a2]? =some (.cells #[.slice b0 a8.length b1,.slice b5 a4.length b6] 30 (0,0))):=⟨by(with_reducible repeat(first|refine blk_drewN ?_ _|refine blk_drew ?_|refine blk_alloc ?_ _));refine blk_put (cs:= #[.slice b0 a8.length b1,.slice none 0 0]) ?_ 1 _ rfl;(with_reducible repeat(first|refine blk_drewN ?_ _|refine blk_drew ?_|refine blk_alloc ?_ _));refine blk_put (cs:= #[.slice none 0 0,.slice none 0 0]) ?_ 0 _ rfl;(with_reducible repeat(first|refine blk_drewN ?_ _|refine blk_drew ?_|refine blk_alloc ?_ _));exact a3.out⟩;have e1:Aside0 (IsS87 w0 ((d1.setCell ⟨a2,0,none⟩ (.slice b0 a8.length b1)).setCell ⟨a2,1,none⟩ (.slice b5 a4.length b6)) g s0_0 c6):=⟨zr15⟩;have e6:Aside0 (KeepBut w ((d1.setCell ⟨a2,0,none⟩ (.slice b0 a8.length b1)).setCell ⟨a2,1,none⟩ (.slice b5 a4.length b6)) g none):=⟨zr16⟩;have e7:Aside0 (Below w0.heap.size w0 ((d1.setCell ⟨a2,0,none⟩ (.slice b0 a8.length b1)).setCell ⟨a2,1,none⟩ (.slice b5 a4.length b6))):=⟨zr13⟩;generalize ((d1.setCell ⟨a2,0,none⟩ (.slice b0 a8.length b1)).setCell ⟨a2,1,none⟩ (.slice b5 a4.length b6))=g3 at d7 d8 d9 e0 e1 e6 e7 ⊢;have b3:=d7;have b4:=d8;have a6:=d9;have a3:=e0;have a0:=e1;have HK:=e6;have HB:=e7;clear d7 d8 d9 e0 e1 e6 e7;replace b3:=zqm (Kd.S_drew b3.out);replace b4:=zqm (Kd.Q_drew b4.out);replace a6:=zqm (blk_drew a6.out);replace a3:=zqm (blk_drew a3.out);replace a0:=zqm (IsS87.drew a0.out);replace HK:=zqm (keep_drew HK.out);replace HB:=zqm (below_drew1 HB.out);refine start_ (n:=20) (S:=fun w'=>w'.cell? ⟨a2,0,none⟩=some (.slice b0 a8.length b1)∧w'.cell? ⟨a2,1,none⟩=some (.slice b5 a4.length b6)) (ds:= []) (zqb 20 0) zqk rfl rfl ⟨(blk_cell a3.out 0).trans rfl,(blk_cell a3.out 1).trans rfl⟩ (fun hHeld=>?_);refine with_tabW spec_l20Two.tab3 spec_l20Two.bits3 (fun HT_ HW_=>?_);generalize g3.drew=h2 at b3 b4 a6 a3 a0 HK HB hHeld ⊢;refine pure_ (i:=1) (N:=some 17) (v:=?_) (a':=?_) (zqb 20 2) rfl rfl (any_of HT_.out zqk) (fun _ _ _ h=>h) (Or.inl ⟨by rfl,?_⟩) ?_ ?_;rotate_left
 ·exact zqt
 rotate_left
 ·exact zqs
 refine pure_ (i:=2) (N:=some 18) (v:=?_) (a':=?_) (zqb 20 6) rfl rfl (any_of HT_.out zqk) (fun _ _ _ h=>h) (Or.inl ⟨by rfl,?_⟩) ?_ ?_;rotate_left
 ·exact zqt
 rotate_left
 ·exact zqs
 refine pure_ (i:=4) (N:=some 20) (v:=?_) (a':=?_) (zqb 20 22) rfl rfl (any_of HT_.out zqk) (fun _ _ _ h=>h) (Or.inl ⟨by rfl,?_⟩) ?_ ?_;rotate_left
 ·exact zqt
 rotate_left
 ·exact zqs
 refine pure_ (i:=9) (N:=some 25) (v:=?_) (a':=?_) (zqb 20 534) rfl rfl (any_of HT_.out zqk) (fun _ _ _ h=>h) (Or.inl ⟨by rfl,?_⟩) ?_ ?_;rotate_left
 ·exact zqt
 rotate_left
 ·exact zqs
 refine pure_ (i:=10) (N:=some 26) (v:=?_) (a':=?_) (zqb 20 1558) rfl rfl (any_of HT_.out zqk) (fun _ _ _ h=>h) (Or.inl ⟨by rfl,?_⟩) ?_ ?_;rotate_left
 ·exact zqt
 rotate_left
 ·exact zqs
 refine pure_ (i:=12) (N:=some 28) (v:=?_) (a':=?_) (zqb 20 5654) rfl rfl (any_of HT_.out zqk) (fun _ _ _ h=>h) (Or.inl ⟨by rfl,?_⟩) ?_ ?_;rotate_left
 ·exact zqt
 rotate_left
 ·exact zqs
 refine take_ (i:=0) (N:=some 16) (v:=?_) (a':=?_) (zqb 20 5655) rfl rfl (take_ofW HT_.out HW_.out zqk) (fun _ _ _ h=>h) (Or.inl ⟨by rfl,?_⟩) hHeld ?_ ?_;rotate_left
 ·rintro w' ⟨s0,s1⟩;go_simp;with_reducible rfl
 rotate_left
 ·exact zqs
 refine one_ (i:=3) (N:=some 19) (zqb 20 5663) rfl rfl (one_of HT_.out zqk) (by decide) (fun K hK=>?_);refine goes_ Try.func103 zqk rfl #[.pointer (some ⟨g,0,none⟩),.int .i64 c7] (by rfl) rfl rfl zr56 ?_;(with_reducible refine(spec_l20Rd_pick.calls k g s0_0 c6 c7 d3 d4 w0 _ ?side1 ?side2 A5.out).mono ?_);(case side1=> exact zr15);(case side2=> exact zr13);rintro e h3 ⟨rfl,hi,hb,hk⟩;refine⟨_,rfl,?_⟩;replace a6:=zqm (KeepBut.blk hk (g':=a5) (o:= .cells #[.slice none 0 0,.slice none 0 0] 30 (0,0)) zr28 c4.out (by simp));replace b3:=zqm (Kd.S_mono (Kd.S_keep (IsS87.apartS (show IsS87 w0 _ g s0_0 c6 from by repeat(first|(with_reducible first|exact a0.out|apply IsS87.alloc|apply IsS87.drewN|apply IsS87.drew|apply IsS87.set_1|refine IsS87.far ?_ a7.out _|refine IsS87.far ?_ a9.out _)|exact a0.out)) zr45 (by decide)) hk (fun _ h=>h.2)) (fun _ h=>h.1));replace b4:=zqm (Kd.Q_mono (Kd.Q_keep (IsS87.apartQ (show IsS87 w0 _ g s0_0 c6 from by repeat(first|(with_reducible first|exact a0.out|apply IsS87.alloc|apply IsS87.drewN|apply IsS87.drew|apply IsS87.set_1|refine IsS87.far ?_ a7.out _|refine IsS87.far ?_ a9.out _)|exact a0.out)) zr44 (by decide)) hk (fun _ h=>h.2)) (fun _ h=>h.1));replace a3:=zqm (KeepBut.blk hk (g':=a2) (o:= .cells #[.slice b0 a8.length b1,.slice b5 a4.length b6] 30 (0,0)) zr47 c5.out (by simp));replace HK:=zqm (KeepBut.trans zr16 hk (.inl rfl));replace HB:=zqm (hb);replace a0:=zqm (hi);clear hb hk hi;refine hK.out _ _ ⟨(blk_cell a3.out 0).trans rfl,(blk_cell a3.out 1).trans rfl⟩ (fun hHeld=>?_);clear hK K;refine norm_ (a':=?_) ?_ ?_;rotate_left
 ·show Act.put _ (some 19) _=_;exact zqs
 refine one_ (i:=5) (N:=some 21) (zqb 20 5695) rfl rfl (one_of HT_.out zqk) (by decide) (fun K hK=>?_);refine goes_ Try.func103 zqk rfl #[.pointer (some ⟨g,0,none⟩),.int .i64 40] (by rfl) rfl rfl zr2 ?_;(with_reducible refine(spec_l20Rd_pick.calls k g s0_0 d4 40 e2 d5 w0 _ ?side1 ?side2 A6.out).mono ?_);(case side1=> exact zr15);(case side2=> exact zr13);rintro e h4 ⟨rfl,hi,hb,hk⟩;refine⟨_,rfl,?_⟩;replace a6:=zqm (KeepBut.blk hk (g':=a5) (o:= .cells #[.slice none 0 0,.slice none 0 0] 30 (0,0)) zr28 c4.out (by simp));replace b3:=zqm (Kd.S_mono (Kd.S_keep (IsS87.apartS (show IsS87 w0 _ g s0_0 d4 from by repeat(first|(with_reducible first|exact a0.out|apply IsS87.alloc|apply IsS87.drewN|apply IsS87.drew|apply IsS87.set_1|refine IsS87.far ?_ a7.out _|refine IsS87.far ?_ a9.out _)|exact a0.out)) zr45 (by decide)) hk (fun _ h=>h.2)) (fun _ h=>h.1));replace b4:=zqm (Kd.Q_mono (Kd.Q_keep (IsS87.apartQ (show IsS87 w0 _ g s0_0 d4 from by repeat(first|(with_reducible first|exact a0.out|apply IsS87.alloc|apply IsS87.drewN|apply IsS87.drew|apply IsS87.set_1|refine IsS87.far ?_ a7.out _|refine IsS87.far ?_ a9.out _)|exact a0.out)) zr44 (by decide)) hk (fun _ h=>h.2)) (fun _ h=>h.1));replace a3:=zqm (KeepBut.blk hk (g':=a2) (o:= .cells #[.slice b0 a8.length b1,.slice b5 a4.length b6] 30 (0,0)) zr47 c5.out (by simp));replace HK:=zqm (KeepBut.trans zr16 hk (.inl rfl));replace HB:=zqm (hb);replace a0:=zqm (hi);clear hb hk hi;refine hK.out _ _ ⟨(blk_cell a3.out 0).trans rfl,(blk_cell a3.out 1).trans rfl⟩ (fun hHeld=>?_);clear hK K;refine norm_ (a':=?_) ?_ ?_;rotate_left
 ·show Act.put _ (some 21) _=_;exact zqs
 refine pure_ (i:=6) (N:=some 22) (v:=?_) (a':=?_) (zqb 20 5759) rfl rfl (any_of HT_.out zqk) (fun _ _ _ h=>h) (Or.inl ⟨by rfl,?_⟩) ?_ ?_;rotate_left
 ·exact zqt
 rotate_left
 ·exact zqs
 refine pure_ (i:=7) (N:=some 23) (v:=?_) (a':=?_) (zqb 20 5887) rfl rfl (any_of HT_.out zqk) (fun _ _ _ h=>h) (Or.inl ⟨by rfl,?_⟩) ?_ ?_;rotate_left
 ·exact zqt
 rotate_left
 ·exact zqs
 refine pure_ (i:=8) (N:=some 24) (v:=?_) (a':=?_) (zqb 20 6143) rfl rfl (any_of HT_.out zqk) (fun _ _ _ h=>h) (Or.inl ⟨by rfl,?_⟩) ?_ ?_;rotate_left
 ·exact zqt
 rotate_left
 ·exact zqs
 refine one_ (i:=11) (N:=some 27) (zqb 20 8191) rfl rfl (one_of HT_.out zqk) (by decide) (fun K hK=>?_);refine goes_ Try.func103 zqk rfl #[.pointer (some ⟨g,0,none⟩),.int .i64 c7] (by rfl) rfl rfl zr56 ?_;(with_reducible refine(spec_l20Rd_pick.calls k g s0_0 d5 c7 e3 d6 w0 _ ?side1 ?side2 A7.out).mono ?_);(case side1=> exact zr15);(case side2=> exact zr13);rintro e h5 ⟨rfl,hi,hb,hk⟩;refine⟨_,rfl,?_⟩;replace a6:=zqm (KeepBut.blk hk (g':=a5) (o:= .cells #[.slice none 0 0,.slice none 0 0] 30 (0,0)) zr28 c4.out (by simp));replace b3:=zqm (Kd.S_mono (Kd.S_keep (IsS87.apartS (show IsS87 w0 _ g s0_0 d5 from by repeat(first|(with_reducible first|exact a0.out|apply IsS87.alloc|apply IsS87.drewN|apply IsS87.drew|apply IsS87.set_1|refine IsS87.far ?_ a7.out _|refine IsS87.far ?_ a9.out _)|exact a0.out)) zr45 (by decide)) hk (fun _ h=>h.2)) (fun _ h=>h.1));replace b4:=zqm (Kd.Q_mono (Kd.Q_keep (IsS87.apartQ (show IsS87 w0 _ g s0_0 d5 from by repeat(first|(with_reducible first|exact a0.out|apply IsS87.alloc|apply IsS87.drewN|apply IsS87.drew|apply IsS87.set_1|refine IsS87.far ?_ a7.out _|refine IsS87.far ?_ a9.out _)|exact a0.out)) zr44 (by decide)) hk (fun _ h=>h.2)) (fun _ h=>h.1));replace a3:=zqm (KeepBut.blk hk (g':=a2) (o:= .cells #[.slice b0 a8.length b1,.slice b5 a4.length b6] 30 (0,0)) zr47 c5.out (by simp));replace HK:=zqm (KeepBut.trans zr16 hk (.inl rfl));replace HB:=zqm (hb);replace a0:=zqm (hi);clear hb hk hi;refine hK.out _ _ ⟨(blk_cell a3.out 0).trans rfl,(blk_cell a3.out 1).trans rfl⟩ (fun hHeld=>?_);clear hK K;refine norm_ (a':=?_) ?_ ?_;rotate_left
 ·show Act.put _ (some 27) _=_;exact zqs
 refine one_ (i:=13) (N:=some 29) (zqb 20 16383) rfl rfl (one_of HT_.out zqk) (by decide) (fun K hK=>?_);refine goes_ Try.func103 zqk rfl #[.pointer (some ⟨g,0,none⟩),.int .i64 40] (by rfl) rfl rfl zr2 ?_;(with_reducible refine(spec_l20Rd_pick.calls k g s0_0 d6 40 e4 e5 w0 _ ?side1 ?side2 A8.out).mono ?_);(case side1=> exact zr15);(case side2=> exact zr13);rintro e f6 ⟨rfl,hi,hb,hk⟩;refine⟨_,rfl,?_⟩;replace a6:=zqm (KeepBut.blk hk (g':=a5) (o:= .cells #[.slice none 0 0,.slice none 0 0] 30 (0,0)) zr28 c4.out (by simp));replace b3:=zqm (Kd.S_mono (Kd.S_keep (IsS87.apartS (show IsS87 w0 _ g s0_0 d6 from by repeat(first|(with_reducible first|exact a0.out|apply IsS87.alloc|apply IsS87.drewN|apply IsS87.drew|apply IsS87.set_1|refine IsS87.far ?_ a7.out _|refine IsS87.far ?_ a9.out _)|exact a0.out)) zr45 (by decide)) hk (fun _ h=>h.2)) (fun _ h=>h.1));replace b4:=zqm (Kd.Q_mono (Kd.Q_keep (IsS87.apartQ (show IsS87 w0 _ g s0_0 d6 from by repeat(first|(with_reducible first|exact a0.out|apply IsS87.alloc|apply IsS87.drewN|apply IsS87.drew|apply IsS87.set_1|refine IsS87.far ?_ a7.out _|refine IsS87.far ?_ a9.out _)|exact a0.out)) zr44 (by decide)) hk (fun _ h=>h.2)) (fun _ h=>h.1));replace a3:=zqm (KeepBut.blk hk (g':=a2) (o:= .cells #[.slice b0 a8.length b1,.slice b5 a4.length b6] 30 (0,0)) zr47 c5.out (by simp));replace HK:=zqm (KeepBut.trans zr16 hk (.inl rfl));replace HB:=zqm (hb);replace a0:=zqm (hi);clear hb hk hi;refine hK.out _ _ ⟨(blk_cell a3.out 0).trans rfl,(blk_cell a3.out 1).trans rfl⟩ (fun hHeld=>?_);clear hK K;refine norm_ (a':=?_) ?_ ?_;rotate_left
 ·show Act.put _ (some 29) _=_;exact zqs
 refine pure_ (i:=14) (N:=some 30) (v:=?_) (a':=?_) (zqb 20 32767) rfl rfl (any_of HT_.out zqk) (fun _ _ _ h=>h) (Or.inl ⟨by rfl,?_⟩) ?_ ?_;rotate_left
 ·exact zqt
 rotate_left
 ·exact zqs
 refine pure_ (i:=15) (N:=some 31) (v:=?_) (a':=?_) (zqb 20 65535) rfl rfl (any_of HT_.out zqk) (fun _ _ _ h=>h) (Or.inl ⟨by rfl,?_⟩) ?_ ?_;rotate_left
 ·exact zqt
 rotate_left
 ·exact zqs
 refine pure_ (i:=16) (N:=some 32) (v:=?_) (a':=?_) (zqb 20 131071) rfl rfl (any_of HT_.out zqk) (fun _ _ _ h=>h) (Or.inl ⟨by rfl,?_⟩) ?_ ?_;rotate_left
 ·exact zqt
 rotate_left
 ·exact zqs
 refine one_ (i:=17) (N:=none) (zqb 20 262143) rfl rfl (one_of HT_.out zqk) (by decide) (fun K hK=>?_);have hs23:f6.cell? ⟨a5,0,none⟩=some (.slice none 0 0):=(blk_cell a6.out 0).trans rfl;have hfs23:=blk_frozen a6.out 0;have hns23_1:=b8.out;have hms23_1:=c1.out;have hs24:f6.cell? ⟨a5,1,none⟩=some (.slice none 0 0):=(blk_cell a6.out 1).trans rfl;have hfs24:=blk_frozen a6.out 1;have hns24_1:=b8.out;have hms24_1:=c1.out;refine skip_ (w1:=?_) (by rfl) rfl ?_ ?_;rotate_left
 ·go_simp;rfl
 refine hK.out _ _ ⟨((cell_far (p:=⟨a5,_,none⟩) b8.out _).trans (((cell_far (p:=⟨a5,_,none⟩) b8.out _).trans (hHeld.1)))),((cell_far (p:=⟨a5,_,none⟩) b8.out _).trans (((cell_far (p:=⟨a5,_,none⟩) b8.out _).trans (hHeld.2))))⟩ (fun hHeld=>?_);clear hK K;refine pure_ (i:=18) (N:=some 5) (v:=?_) (a':=?_) (zqb 20 524287) rfl rfl (any_of HT_.out zqk) (fun _ _ _ h=>h) (Or.inl ⟨by rfl,?_⟩) ?_ ?_;rotate_left
 ·exact zqt
 rotate_left
 ·exact zqs
 refine pure_ (i:=19) (N:=some 6) (v:=?_) (a':=?_) (zqb 20 1048575) rfl rfl (any_of HT_.out zqk) (fun _ _ _ h=>h) (Or.inl ⟨by rfl,?_⟩) ?_ ?_;rotate_left
 ·exact zqt
 rotate_left
 ·exact zqs
 refine done_ (done_of HT_.out zqk) ?_;(try go_wp2);refine bodyPost_ret (results_ctt rfl _ _ a5 30 #[.slice b0 a8.length b1,.slice b5 a4.length b6] (0,0) _ rfl (by(with_reducible repeat(first|refine blk_drewN ?_ _|refine blk_drew ?_|refine blk_alloc ?_ _));refine blk_put (cs:= #[.slice b0 a8.length b1,.slice none 0 0]) ?_ 1 _ rfl;(with_reducible repeat(first|refine blk_drewN ?_ _|refine blk_drew ?_|refine blk_alloc ?_ _));refine blk_put (cs:= #[.slice none 0 0,.slice none 0 0]) ?_ 0 _ rfl;(with_reducible repeat(first|refine blk_drewN ?_ _|refine blk_drew ?_|refine blk_alloc ?_ _));exact a6.out) Try.underlying30 rfl zqk) rfl ?_;exact⟨_,_,by first|rfl|(simp [errW_none,errW_some] <;> rfl)|(simp only [← c8];first|rfl|(simp [errW_none,errW_some] <;> rfl))|(simp [*,errW_none,errW_some] <;> rfl),by(with_reducible repeat(first|apply Kd.S_alloc|apply Kd.S_drewN|apply Kd.S_drew));exact Kd.S_mono (Kd.S_far (p:=⟨a5,1,none⟩) (Kd.S_far (p:=⟨a5,0,none⟩) (Kd.S_types b3.out a6.out (by decide)) (fun _ hk=>hk.2) (.slice b0 a8.length b1)) (fun _ hk=>hk.2) (.slice b5 a4.length b6)) (fun _ hk=>hk.1),by(with_reducible repeat(first|apply Kd.Q_alloc|apply Kd.Q_drewN|apply Kd.Q_drew));exact Kd.Q_mono (Kd.Q_far (p:=⟨a5,1,none⟩) (Kd.Q_far (p:=⟨a5,0,none⟩) (Kd.Q_types b4.out a6.out (by decide)) (fun _ hk=>hk.2) (.slice b0 a8.length b1)) (fun _ hk=>hk.2) (.slice b5 a4.length b6)) (fun _ hk=>trivial),zr15,zr13,zr16⟩
def spec_DrawUpToOf.f (k : Nat) (l0 : List Int) : Option ((List (List Int)) × List Int × Int) := (spec_l20Open.f l0).bind fun bt888 => ((spec_l20Two.f k bt888.1 bt888.2 14).bind fun bt891 => (some (bt891.1, bt891.2.1, bt891.2.2.1)))
set_option maxHeartbeats 8000000 in
set_option maxRecDepth 100000 in
theorem spec_DrawUpToOf.calls (k : Nat) (A0 : Option Addr) (c0 : Nat) (l0 : List Int) (r1 : List (List Int)) (r2 : List Int) (r3 : Int) (w : World) (hr0 : Kd.C (Kd.int .u8) w A0 l0.length l0) (hc0 : l0.length ≤ c0) (h : spec_DrawUpToOf.f k l0 = some (r1, r2, r3)) :
  Calls Try.prog 50 #[.slice A0 l0.length c0] w fun e w' => ∃ v0_ v1_ : Value, e = .returned (.tuple #[.agg #[v0_, v1_], .int .i64 r3]) ∧ Kd.S (Kd.slice 3 (Kd.int .i64)) 28 w' w.heap.size (fun k_ => some k_ ≠ (v1_ : Value).ownBlock) v0_ r1 ∧ Kd.Q (Kd.int .i64) 3 w' w.heap.size (fun _ => True) v1_ r2 ∧ Below w.heap.size w w' := by
 have hu30:=Try.underlying30;have e6:=zqm hr0;have e7:=zqm hc0;clear hr0 hc0;have HB:=zqm (Below.refl w.heap.size w);have H:((spec_l20Open.f l0).bind fun c6=>((spec_l20Two.f k c6.1 c6.2 14).bind fun a6=>(some (a6.1,a6.2.1,a6.2.2.1))))=some (r1,r2,r3):=h;clear h;replace H:=Option.bind_eq_some_iff.mp H;obtain⟨⟨b4,c4⟩,c9,H⟩:=H;replace H:((spec_l20Two.f k b4 c4 14).bind fun a6=>(some (a6.1,a6.2.1,a6.2.2.1)))=some (r1,r2,r3):=H;have A2:=zqm c9;clear c9;replace H:=Option.bind_eq_some_iff.mp H;obtain⟨⟨a7,b0,c7,d6,c5⟩,d0,H⟩:=H;replace H:(some (a7,b0,c7))=some (r1,r2,r3):=H;have A3:=zqm d0;clear d0;simp only [Option.some.injEq,Prod.mk.injEq] at H;obtain⟨rfl,rfl,rfl⟩:=H
 go_enter Try.func50,Try.ntmps50
 go_wp2_with (first|((with_reducible refine gate_dst (N:=2) rfl ?_);refine box_event ?hg (N:=2) ?hd (cs:= #[.slice none 0 0,.slice none 0 0]) (t:=30) ?hr ?_;(case hd=>rfl);(case hg=>rfl);(case hr=>first|(go_simp;done)|(go_simp;rfl));intro a1 hg w4 hbox hb;have b9:=zqm (below_step zr0 hb);have a0:=zqm (hbox);have e9:=zqm ((by rw [hg];exact(below_size zr0):w.heap.size≤a1));have a5:=zqm ((by rw [hg];exact(below_size zr0):w.heap.size≤a1));clear HB;have HB:=b9;clear b9 hb hbox hg)|((with_reducible refine gate_callee (f:=72) rfl ?_);refine goesL_ (some 9) rfl rfl Try.func72 zqk rfl #[.slice A0 l0.length c0] rfl zr2 ?_;(with_reducible refine(spec_l20Open.calls _ _ l0 b4 c4 w _ ?side1 ?side2 ?side3 A2.out).mono ?_);(case side1=> exact zr18);(case side2=>exact e6.out);(case side3=>exact e7.out);rintro e w5 ⟨g890,rfl,hi,hb,hb2⟩;refine⟨_,rfl,?_⟩;have b9:=zqm (blk_below (g:=a1) (o:= .cells #[.slice none 0 0,.slice none 0 0] 30 (0,0)) zr1 hb2);replace HB:=zqm (hb);have a2:=zqm (hi);have a4:=zqm (IsS87.ne_blk hi (blk_below (g:=a1) (o:= .cells #[.slice none 0 0,.slice none 0 0] 30 (0,0)) zr1 hb2) (by decide));have b1:=zqm (Ne.symm (IsS87.ne_blk hi (blk_below (g:=a1) (o:= .cells #[.slice none 0 0,.slice none 0 0] 30 (0,0)) zr1 hb2) (by decide)));clear a0;have a0:=b9;clear b9 hb hb2 hi)|((with_reducible refine gate_callee (f:=76) rfl ?_);refine goesL_ (some 12) rfl rfl Try.func76 zqk rfl #[.pointer (some ⟨g890,0,none⟩),.int .i64 14] rfl zr2 ?_;(with_reducible refine(spec_l20Two.calls k g890 b4 c4 14 a7 b0 c7 d6 c5 w _ ?side1 ?side2 A3.out).mono ?_);(case side1=> exact zr53);(case side2=> exact zr17);rintro e w6 ⟨f5,f6,rfl,d1,d2,hi,hb,hk⟩;refine⟨_,rfl,?_⟩;replace a0:=zqm (KeepBut.blk hk (g':=a1) (o:= .cells #[.slice none 0 0,.slice none 0 0] 30 (0,0)) zr1 b1.out (by simp));have b2:=zqm (Kd.S_lower d1 (below_size zr17));have b3:=zqm (Kd.Q_lower d2 (below_size zr17));replace HB:=zqm (hb);replace a2:=zqm (hi);clear hb hk hi d1 d2)|((with_reducible refine gate_dst (N:=5) rfl ?_);refine box_event ?hg (N:=5) ?hd (cs:= #[.slice none 0 0,.slice none 0 0]) (t:=30) ?hr ?_;(case hd=>rfl);(case hg=>rfl);(case hr=>first|(go_simp;done)|(go_simp;rfl));intro a3 hg w7 hbox hb;replace b2:=zqm (Kd.S_below (by(with_reducible repeat(first|apply Kd.S_alloc|apply Kd.S_drewN|apply Kd.S_drew));exact b2.out) hb);replace b3:=zqm (Kd.Q_below (by(with_reducible repeat(first|apply Kd.Q_alloc|apply Kd.Q_drewN|apply Kd.Q_drew));exact b3.out) hb);have d3:=zqm (blk_below (g:=a1) (o:= .cells #[.slice none 0 0,.slice none 0 0] 30 (0,0)) zr1 hb);have d4:=zqm (IsS87.below zr53 hb);have d5:=zqm (below_step zr17 hb);have a9:=zqm (hbox);have f0:=zqm ((by rw [hg];exact(below_size zr17):w.heap.size≤a3));have c8:=zqm ((by rw [hg];exact(below_size zr17):w.heap.size≤a3));have a8:=zqm ((by rw [hg];exact Nat.ne_of_lt (blk_lt (g:=a1) (o:= .cells #[.slice none 0 0,.slice none 0 0] 30 (0,0)) zr1):a1≠a3));have c1:=zqm ((by rw [hg];exact Nat.ne_of_gt (blk_lt (g:=a1) (o:= .cells #[.slice none 0 0,.slice none 0 0] 30 (0,0)) zr1):a3≠a1));have c2:=zqm ((by rw [hg];exact Nat.ne_of_lt (IsS87.lt (show IsS87 w _ g890 b4 c5 from by repeat(first|(with_reducible first|exact a2.out|apply IsS87.alloc|apply IsS87.drewN|apply IsS87.drew|apply IsS87.set_1|refine IsS87.far ?_ a4.out _)|exact a2.out))):g890≠a3));have c3:=zqm ((by rw [hg];exact Nat.ne_of_gt (IsS87.lt (show IsS87 w _ g890 b4 c5 from by repeat(first|(with_reducible first|exact a2.out|apply IsS87.alloc|apply IsS87.drewN|apply IsS87.drew|apply IsS87.set_1|refine IsS87.far ?_ a4.out _)|exact a2.out))):a3≠g890));clear a0 a2 HB;have a0:=d3;have a2:=d4;have HB:=d5;clear d3 d4 d5 hb hbox hg;obtain⟨b7,b8,e8⟩:=Kd.S_slice b2.out;subst e8;have f7:=c1.out;have f8:=a8.out;have f1:=c3.out;have f2:=c2.out;have d8:w7.cell? ⟨a3,0,none⟩=some (.slice none 0 0):=(blk_cell a9.out 0).trans rfl;have d9:w7.cell? ⟨a3,1,none⟩=some (.slice none 0 0):=(blk_cell a9.out 1).trans rfl;have e0:=blk_frozen a9.out 0;have e1:=blk_frozen a9.out 1;obtain⟨b5,b6,d7,_⟩:=Kd.Q_slice b3.out;subst d7;have f3:=b1.out;have f4:=a4.out;have e2:w7.cell? ⟨a1,0,none⟩=some (.slice none 0 0):=(blk_cell a0.out 0).trans rfl;have e3:w7.cell? ⟨a1,1,none⟩=some (.slice none 0 0):=(blk_cell a0.out 1).trans rfl;have e4:=blk_frozen a0.out 0;have e5:=blk_frozen a0.out 1))
 refine bodyPost_ret (results_ct rfl _ _ a1 30 #[.slice b7 a7.length b8,.slice b5 b0.length b6] (0,0) _ rfl (by(with_reducible repeat(first|refine blk_drewN ?_ _|refine blk_drew ?_|refine blk_alloc ?_ _));refine blk_put (cs:= #[.slice b7 a7.length b8,.slice none 0 0]) ?_ 1 _ rfl;(with_reducible repeat(first|refine blk_drewN ?_ _|refine blk_drew ?_|refine blk_alloc ?_ _));refine blk_put (cs:= #[.slice none 0 0,.slice none 0 0]) ?_ 0 _ rfl;(with_reducible repeat(first|refine blk_drewN ?_ _|refine blk_drew ?_|refine blk_alloc ?_ _));refine blk_far ?_ a8.out _;(with_reducible repeat(first|refine blk_drewN ?_ _|refine blk_drew ?_|refine blk_alloc ?_ _));refine blk_far ?_ a8.out _;(with_reducible repeat(first|refine blk_drewN ?_ _|refine blk_drew ?_|refine blk_alloc ?_ _));exact a0.out) Try.underlying30 rfl zqk) rfl ?_;exact⟨_,_,zr12,by(with_reducible repeat(first|apply Kd.S_alloc|apply Kd.S_drewN|apply Kd.S_drew));exact Kd.S_mono (Kd.S_far (p:=⟨a1,1,none⟩) (Kd.S_far (p:=⟨a1,0,none⟩) (Kd.S_far (p:=⟨a3,1,none⟩) (Kd.S_far (p:=⟨a3,0,none⟩) (Kd.S_types (Kd.S_types b2.out a9.out (by decide)) a0.out (by decide)) (fun _ hk=>hk.1.2) (.slice b7 a7.length b8)) (fun _ hk=>hk.1.2) (.slice b5 b0.length b6)) (fun _ hk=>hk.2) (.slice b7 a7.length b8)) (fun _ hk=>hk.2) (.slice b5 b0.length b6)) (fun _ hk=>hk.1.1),by(with_reducible repeat(first|apply Kd.Q_alloc|apply Kd.Q_drewN|apply Kd.Q_drew));exact Kd.Q_mono (Kd.Q_far (p:=⟨a1,1,none⟩) (Kd.Q_far (p:=⟨a1,0,none⟩) (Kd.Q_far (p:=⟨a3,1,none⟩) (Kd.Q_far (p:=⟨a3,0,none⟩) (Kd.Q_types (Kd.Q_types b3.out a9.out (by decide)) a0.out (by decide)) (fun _ hk=>hk.1.2) (.slice b7 a7.length b8)) (fun _ hk=>hk.1.2) (.slice b5 b0.length b6)) (fun _ hk=>hk.2) (.slice b7 a7.length b8)) (fun _ hk=>hk.2) (.slice b5 b0.length b6)) (fun _ hk=>trivial),by repeat(first|(with_reducible first|exact HB.out|apply below_alloc|apply pw_below_drewN|apply below_drew1|refine below_set ?_ (IsS87.ge a2.out)|refine below_set ?_ a5.out|refine below_set ?_ c8.out)|exact HB.out)⟩
def laws_sameInts.l0 : Nat → List Int → List Int → Int → Option (Bool)
 | 0, _, _, _ => none
 | k + 1, x0, x1, x5 => if x5 < (x0.length : Int) then (if 0 ≤ x5 then (if x5 < (x1.length : Int) then (if (rd x0 x5) = (rd x1 x5) then (laws_sameInts.l0 k x0 x1 (wrap64 (x5 + 1))) else (some false)) else (none)) else (none)) else (some true)
def laws_sameInts.f (k : Nat) (l0 : List Int) (l1 : List Int) : Option (Bool) := if (l0.length : Int) = (l1.length : Int) then (laws_sameInts.l0 k l0 l1 0) else (some false)
set_option maxHeartbeats 8000000 in
set_option maxRecDepth 100000 in
theorem laws_sameInts.calls (k : Nat) (A0 : Option Addr) (c0 : Nat) (l0 : List Int) (A1 : Option Addr) (c1 : Nat) (l1 : List Int) (r : Bool) (w : World) (hr0 : Kd.C (Kd.int .i64) w A0 l0.length l0) (hc0 : l0.length ≤ c0) (hr1 : Kd.C (Kd.int .i64) w A1 l1.length l1) (hc1 : l1.length ≤ c1) (h : laws_sameInts.f k l0 l1 = some r) :
  Calls Try.prog 52 #[.slice A0 l0.length c0, .slice A1 l1.length c1] w fun e w' => e = .returned (.bool r) ∧ Drawn0 w w' := by
 have b4:=zqm hr0;have c9:=zqm hc0;clear hr0 hc0;have b5:=zqm hr1;have d0:=zqm hc1;clear hr1 hc1;have H:(if(l0.length:Int)=(l1.length:Int) then(laws_sameInts.l0 k l0 l1 0) else(some false))=some r:=h;clear h
 by_cases c3:(l0.length:Int)=(l1.length:Int)
 ·rw [if_pos c3] at H;have a9:((l0.length:Int)==(l1.length:Int))=true:=beq_iff_eq.mpr c3;have b0:((l0.length:Int) !=(l1.length:Int))=false:=bne_eq_false_iff_eq.mpr c3;(have b1:(l0.length==l1.length)=true:=by first|simpa using c3|(simp at c3 ⊢;omega));clear c3;have H':=zqm H;clear H
  go_enter Try.func52,Try.ntmps52
  go_wp2
  repeat(go_quiet (fail);try go_wp2)
  go_loopg [5] k (fun kq v5 w'=> ∃(a0:Int),v5= .int .i64 a0∧Aside0 (laws_sameInts.l0 kq l0 l1 a0=some r)∧Aside0 (kq≤k)∧Drawn0 w w')
  case atStart=>exact⟨(0),(by first|rfl|(simp;done)|(simp [*];done)),H',⟨Nat.le_refl _⟩,zr30⟩
  case round=>
   clear H';(try clear c1);(try clear p2);(try clear c3);(try clear a9);(try clear b0);(try clear b1);obtain⟨a0,rfl,HA,b6,⟨m1,rfl⟩⟩:=hrel
   cases gk with
   |zero=>exact absurd HA.out (by simp [laws_sameInts.l0])
   |succ k1=>
    have H:=HA.out;clear HA;simp only [laws_sameInts.l0] at H
    by_cases c4:a0<(l0.length:Int)
    ·rw [if_pos c4] at H;have b7:decide (a0<(l0.length:Int))=true:=decide_eq_true c4;clear c4
     by_cases c5:0≤a0
     ·rw [if_pos c5] at H;have c2:decide (0≤a0)=true:=decide_eq_true c5;clear c5
      by_cases c6:a0<(l1.length:Int)
      ·rw [if_pos c6] at H;have c8:decide (a0<(l1.length:Int))=true:=decide_eq_true c6;clear c6
       by_cases c7:(rd l0 a0)=(rd l1 a0)
       ·rw [if_pos c7] at H;have b8:((rd l0 a0)==(rd l1 a0))=true:=beq_iff_eq.mpr c7;have b9:((rd l0 a0) !=(rd l1 a0))=false:=bne_eq_false_iff_eq.mpr c7;clear c7;have H':=zqm H;clear H;have a1:0≤(a0:Int):=zqo;have a2:a0<(l0.length:Int):=zqo;obtain⟨b2,a5,a7⟩:=Kd.at_int b4.out a0 a1 a2
        cases a5
        replace a1:=eq_true a1;replace a2:=eq_true a2;have a3:0≤(a0:Int):=zqo;have a4:a0<(l1.length:Int):=zqo;obtain⟨b3,a6,a8⟩:=Kd.at_int b5.out a0 a3 a4
        cases a6
        replace a3:=eq_true a3;replace a4:=eq_true a4
        go_wp2
        repeat(go_quiet (fail);try go_wp2)
        go_roundg k1
        (case measure=>have:=b6.out;omega);case rel=>exact⟨(wrap64 (a0+1)),(by first|rfl|(simp;done)|(simp [*];done)),H',⟨by have:=b6.out;omega⟩,zr30⟩
       ·rw [if_neg c7] at H;have b8:((rd l0 a0)==(rd l1 a0))=false:=beq_eq_false_iff_ne.mpr c7;have b9:((rd l0 a0) !=(rd l1 a0))=true:=bne_iff_ne.mpr c7;obtain rfl:=Option.some.inj H;have a1:0≤(a0:Int):=zqo;have a2:a0<(l0.length:Int):=zqo;obtain⟨b2,a5,a7⟩:=Kd.at_int b4.out a0 a1 a2
        cases a5
        replace a1:=eq_true a1;replace a2:=eq_true a2;have a3:0≤(a0:Int):=zqo;have a4:a0<(l1.length:Int):=zqo;obtain⟨b3,a6,a8⟩:=Kd.at_int b5.out a0 a3 a4
        cases a6
        replace a3:=eq_true a3;replace a4:=eq_true a4
        go_wp2
        repeat(go_quiet (fail);try go_wp2)
        go_ret
        exact⟨by first|rfl|(simp;done)|(simp [*];done),zr30⟩
      ·rw [if_neg c6] at H;exact absurd H (by simp)
     ·rw [if_neg c5] at H;exact absurd H (by simp)
    ·rw [if_neg c4] at H;have b7:decide (a0<(l0.length:Int))=false:=decide_eq_false c4;clear c4;obtain rfl:=Option.some.inj H
     go_wp2
     repeat(go_quiet (fail);try go_wp2)
     go_ret
     exact⟨by first|rfl|(simp;done)|(simp [*];done),zr30⟩
 ·rw [if_neg c3] at H;have a9:((l0.length:Int)==(l1.length:Int))=false:=beq_eq_false_iff_ne.mpr c3;have b0:((l0.length:Int) !=(l1.length:Int))=true:=bne_iff_ne.mpr c3;(have b1:(l0.length==l1.length)=false:=by first|simpa using c3|(simp at c3 ⊢;omega));obtain rfl:=Option.some.inj H
  go_enter Try.func52,Try.ntmps52
  go_wp2
  repeat(go_quiet (fail);try go_wp2)
  go_ret
  exact⟨by first|rfl|(simp;done)|(simp [*];done),zr30⟩
def spec_l2Both.f (k : Nat) (l0_0 : List (List Int)) (l0_1 : List Int) (a1 : Int) (a2 : Int) : Option (Bool) := (spec_LogicOk.f k l0_0 l0_1).bind fun t601 => (if t601 = true then ((spec_l1In.f a1 0 (wrap64 ((l0_1.length : Int) - 1))).bind fun t602 => (if t602 = true then ((spec_l1In.f a2 0 (wrap64 ((l0_1.length : Int) - 1))).bind fun t603 => (some t603)) else (some false))) else (some false))
set_option maxHeartbeats 8000000 in
set_option maxRecDepth 100000 in
theorem spec_l2Both.calls (k : Nat) (A0_0 : Option Addr) (c0_0 : Nat) (l0_0 : List (List Int)) (A0_1 : Option Addr) (c0_1 : Nat) (l0_1 : List Int) (a1 : Int) (a2 : Int) (r : Bool) (w : World) (hr0_0 : Kd.C (Kd.slice 3 (Kd.int .i64)) w A0_0 l0_0.length l0_0) (hc0_0 : l0_0.length ≤ c0_0) (hr0_1 : Kd.C (Kd.int .i64) w A0_1 l0_1.length l0_1) (hc0_1 : l0_1.length ≤ c0_1) (h : spec_l2Both.f k l0_0 l0_1 a1 a2 = some r) :
  Calls Try.prog 80 #[.agg #[.slice A0_0 l0_0.length c0_0, .slice A0_1 l0_1.length c0_1], .int .i64 a1, .int .i64 a2] w fun e w' => e = .returned (.bool r) ∧ Below w.heap.size w w' := by
 have hu30:=Try.underlying30;have a8:=zqm hr0_0;have a9:=zqm hc0_0;clear hr0_0 hc0_0;have b0:=zqm hr0_1;have b1:=zqm hc0_1;clear hr0_1 hc0_1;have HB:=zqm (Below.refl w.heap.size w);have H:((spec_LogicOk.f k l0_0 l0_1).bind fun b2=>(if b2=true then((spec_l1In.f a1 0 (wrap64 ((l0_1.length:Int) - 1))).bind fun a6=>(if a6=true then((spec_l1In.f a2 0 (wrap64 ((l0_1.length:Int) - 1))).bind fun a4=>(some a4)) else(some false))) else(some false)))=some r:=h;clear h;replace H:=Option.bind_eq_some_iff.mp H;obtain⟨b2,b4,H⟩:=H;replace H:(if b2=true then((spec_l1In.f a1 0 (wrap64 ((l0_1.length:Int) - 1))).bind fun a6=>(if a6=true then((spec_l1In.f a2 0 (wrap64 ((l0_1.length:Int) - 1))).bind fun a4=>(some a4)) else(some false))) else(some false))=some r:=H;have A4:=zqm b4;clear b4
 by_cases c5:b2=true
 ·subst c5;(have H1:((spec_l1In.f a1 0 (wrap64 ((l0_1.length:Int) - 1))).bind fun a6=>(if a6=true then((spec_l1In.f a2 0 (wrap64 ((l0_1.length:Int) - 1))).bind fun a4=>(some a4)) else(some false)))=some r:=by rw [if_pos rfl] at H;exact H);clear H;have H:=H1;clear H1;replace H:=Option.bind_eq_some_iff.mp H;obtain⟨a6,b5,H⟩:=H;replace H:(if a6=true then((spec_l1In.f a2 0 (wrap64 ((l0_1.length:Int) - 1))).bind fun a4=>(some a4)) else(some false))=some r:=H;have A6:=zqm b5;clear b5
  by_cases c7:a6=true
  ·subst c7;(have H1:((spec_l1In.f a2 0 (wrap64 ((l0_1.length:Int) - 1))).bind fun a4=>(some a4))=some r:=by rw [if_pos rfl] at H;exact H);clear H;have H:=H1;clear H1;replace H:=Option.bind_eq_some_iff.mp H;obtain⟨a4,b6,H⟩:=H;replace H:(some a4)=some r:=H;have A8:=zqm b6;clear b6;obtain rfl:=Option.some.inj H
   go_enter Try.func80,Try.ntmps80
   go_wp2_with (first|((with_reducible refine gate_dst (N:=3) rfl ?_);(try(refine gate_guard (by rfl) ?_;dsimp only));refine box_event ?hg (N:=3) ?hd (cs:= #[.slice A0_0 l0_0.length c0_0,.slice A0_1 l0_1.length c0_1]) (t:=30) ?hr ?_;(case hd=>rfl);(case hg=>rfl);(case hr=>first|(go_simp;done)|(go_simp;rfl));intro a3 hg w9 hbox hb;have a7:=zqm (below_step zr0 hb);have a0:=zqm (hbox);have b3:=zqm ((by rw [hg];exact(below_size zr0):w.heap.size≤a3));have a5:=zqm ((by rw [hg];exact(below_size zr0):w.heap.size≤a3));clear HB;have HB:=a7;clear a7 hb hbox hg;have c1:w9.cell? ⟨a3,0,none⟩=some (.slice A0_0 l0_0.length c0_0):=(blk_cell a0.out 0).trans rfl;have c2:w9.cell? ⟨a3,1,none⟩=some (.slice A0_1 l0_1.length c0_1):=(blk_cell a0.out 1).trans rfl;have c3:=blk_frozen a0.out 0;have c4:=blk_frozen a0.out 1)|((with_reducible refine gate_callee (f:=42) rfl ?_);refine goesL_ (some 8) rfl rfl Try.func42 zqk rfl #[.agg #[.slice A0_0 l0_0.length c0_0,.slice A0_1 l0_1.length c0_1]] rfl zr2 ?_;(with_reducible refine(spec_LogicOk.calls k _ _ l0_0 _ _ l0_1 true _ ?side1 ?side2 ?side3 ?side4 A4.out).mono ?_);(case side1=> exact zr38);(case side2=>exact a9.out);(case side3=> exact zr29);(case side4=>exact b1.out);rintro e b7 ⟨rfl,hb⟩;refine⟨_,rfl,?_⟩;replace a0:=zqm (blk_below (g:=a3) (o:= .cells #[.slice A0_0 l0_0.length c0_0,.slice A0_1 l0_1.length c0_1] 30 (0,0)) zr1 hb);replace HB:=zqm (below_step zr18 hb);clear hb;have c6:b7.cell? ⟨a3,0,none⟩=some (.slice A0_0 l0_0.length c0_0):=(blk_cell a0.out 0).trans rfl;have c8:b7.cell? ⟨a3,1,none⟩=some (.slice A0_1 l0_1.length c0_1):=(blk_cell a0.out 1).trans rfl;have c9:=blk_frozen a0.out 0;have d0:=blk_frozen a0.out 1)|(go_at_call 94;(with_reducible refine(spec_l1In.calls a1 0 (wrap64 ((l0_1.length:Int) - 1)) true _ A6.out).mono ?_);rintro e w' ⟨rfl,⟨nd,rfl⟩⟩)|(go_at_call 94;(with_reducible refine(spec_l1In.calls a2 0 (wrap64 ((l0_1.length:Int) - 1)) a4 _ A8.out).mono ?_);rintro e w' ⟨rfl,⟨nd,rfl⟩⟩))
   go_ret
   exact⟨zr12,zr18⟩
  ·replace c7:=Bool.eq_false_iff.mpr c7;subst c7;(have H1:(some false)=some r:=by rw [if_neg (show¬(false=true) by decide)] at H;exact H);clear H;have H:=H1;clear H1;obtain rfl:=Option.some.inj H
   go_enter Try.func80,Try.ntmps80
   go_wp2_with (first|((with_reducible refine gate_dst (N:=3) rfl ?_);(try(refine gate_guard (by rfl) ?_;dsimp only));refine box_event ?hg (N:=3) ?hd (cs:= #[.slice A0_0 l0_0.length c0_0,.slice A0_1 l0_1.length c0_1]) (t:=30) ?hr ?_;(case hd=>rfl);(case hg=>rfl);(case hr=>first|(go_simp;done)|(go_simp;rfl));intro a3 hg b8 hbox hb;have a7:=zqm (below_step zr0 hb);have a0:=zqm (hbox);have b3:=zqm ((by rw [hg];exact(below_size zr0):w.heap.size≤a3));have a5:=zqm ((by rw [hg];exact(below_size zr0):w.heap.size≤a3));clear HB;have HB:=a7;clear a7 hb hbox hg;have d1:b8.cell? ⟨a3,0,none⟩=some (.slice A0_0 l0_0.length c0_0):=(blk_cell a0.out 0).trans rfl;have d2:b8.cell? ⟨a3,1,none⟩=some (.slice A0_1 l0_1.length c0_1):=(blk_cell a0.out 1).trans rfl;have d3:=blk_frozen a0.out 0;have d4:=blk_frozen a0.out 1)|((with_reducible refine gate_callee (f:=42) rfl ?_);refine goesL_ (some 8) rfl rfl Try.func42 zqk rfl #[.agg #[.slice A0_0 l0_0.length c0_0,.slice A0_1 l0_1.length c0_1]] rfl zr2 ?_;(with_reducible refine(spec_LogicOk.calls k _ _ l0_0 _ _ l0_1 true _ ?side1 ?side2 ?side3 ?side4 A4.out).mono ?_);(case side1=> exact zr38);(case side2=>exact a9.out);(case side3=> exact zr29);(case side4=>exact b1.out);rintro e b9 ⟨rfl,hb⟩;refine⟨_,rfl,?_⟩;replace a0:=zqm (blk_below (g:=a3) (o:= .cells #[.slice A0_0 l0_0.length c0_0,.slice A0_1 l0_1.length c0_1] 30 (0,0)) zr1 hb);replace HB:=zqm (below_step zr18 hb);clear hb;have d5:b9.cell? ⟨a3,0,none⟩=some (.slice A0_0 l0_0.length c0_0):=(blk_cell a0.out 0).trans rfl;have d6:b9.cell? ⟨a3,1,none⟩=some (.slice A0_1 l0_1.length c0_1):=(blk_cell a0.out 1).trans rfl;have d7:=blk_frozen a0.out 0;have d8:=blk_frozen a0.out 1)|(go_at_call 94;(with_reducible refine(spec_l1In.calls a1 0 (wrap64 ((l0_1.length:Int) - 1)) false _ A6.out).mono ?_);rintro e w' ⟨rfl,⟨nd,rfl⟩⟩))
   go_ret
   exact⟨zr12,zr18⟩
 ·replace c5:=Bool.eq_false_iff.mpr c5;subst c5;(have H1:(some false)=some r:=by rw [if_neg (show¬(false=true) by decide)] at H;exact H);clear H;have H:=H1;clear H1;obtain rfl:=Option.some.inj H
  go_enter Try.func80,Try.ntmps80
  go_wp2_with (first|((with_reducible refine gate_dst (N:=3) rfl ?_);(try(refine gate_guard (by rfl) ?_;dsimp only));refine box_event ?hg (N:=3) ?hd (cs:= #[.slice A0_0 l0_0.length c0_0,.slice A0_1 l0_1.length c0_1]) (t:=30) ?hr ?_;(case hd=>rfl);(case hg=>rfl);(case hr=>first|(go_simp;done)|(go_simp;rfl));intro a3 hg c0 hbox hb;have a7:=zqm (below_step zr0 hb);have a0:=zqm (hbox);have b3:=zqm ((by rw [hg];exact(below_size zr0):w.heap.size≤a3));have a5:=zqm ((by rw [hg];exact(below_size zr0):w.heap.size≤a3));clear HB;have HB:=a7;clear a7 hb hbox hg;have d9:c0.cell? ⟨a3,0,none⟩=some (.slice A0_0 l0_0.length c0_0):=(blk_cell a0.out 0).trans rfl;have e0:c0.cell? ⟨a3,1,none⟩=some (.slice A0_1 l0_1.length c0_1):=(blk_cell a0.out 1).trans rfl;have e1:=blk_frozen a0.out 0;have e2:=blk_frozen a0.out 1)|((with_reducible refine gate_callee (f:=42) rfl ?_);refine goesL_ (some 8) rfl rfl Try.func42 zqk rfl #[.agg #[.slice A0_0 l0_0.length c0_0,.slice A0_1 l0_1.length c0_1]] rfl zr2 ?_;(with_reducible refine(spec_LogicOk.calls k _ _ l0_0 _ _ l0_1 false _ ?side1 ?side2 ?side3 ?side4 A4.out).mono ?_);(case side1=> exact zr38);(case side2=>exact a9.out);(case side3=> exact zr29);(case side4=>exact b1.out);rintro e e3 ⟨rfl,hb⟩;refine⟨_,rfl,?_⟩;replace a0:=zqm (blk_below (g:=a3) (o:= .cells #[.slice A0_0 l0_0.length c0_0,.slice A0_1 l0_1.length c0_1] 30 (0,0)) zr1 hb);replace HB:=zqm (below_step zr18 hb);clear hb))
  go_ret
  exact⟨zr12,zr18⟩
def spec_NotOf.f (k : Nat) (l0_0 : List (List Int)) (l0_1 : List Int) (a1 : Int) : Option (Int) := (spec_l2Both.f k l0_0 l0_1 a1 a1).bind fun t849 => (if t849 = true then (if 0 ≤ a1 then (if a1 < (l0_1.length : Int) then (some (rd l0_1 a1)) else (none)) else (none)) else (some (-1)))
set_option maxHeartbeats 8000000 in
set_option maxRecDepth 100000 in
theorem spec_NotOf.calls (k : Nat) (A0_0 : Option Addr) (c0_0 : Nat) (l0_0 : List (List Int)) (A0_1 : Option Addr) (c0_1 : Nat) (l0_1 : List Int) (a1 : Int) (r : Int) (w : World) (hr0_0 : Kd.C (Kd.slice 3 (Kd.int .i64)) w A0_0 l0_0.length l0_0) (hc0_0 : l0_0.length ≤ c0_0) (hr0_1 : Kd.C (Kd.int .i64) w A0_1 l0_1.length l0_1) (hc0_1 : l0_1.length ≤ c0_1) (h : spec_NotOf.f k l0_0 l0_1 a1 = some r) :
  Calls Try.prog 96 #[.agg #[.slice A0_0 l0_0.length c0_0, .slice A0_1 l0_1.length c0_1], .int .i64 a1] w fun e w' => e = .returned (.int .i64 r) ∧ Below w.heap.size w w' := by
 have hu30:=Try.underlying30;have b0:=zqm hr0_0;have b1:=zqm hc0_0;clear hr0_0 hc0_0;have a5:=zqm hr0_1;have b2:=zqm hc0_1;clear hr0_1 hc0_1;have HB:=zqm (Below.refl w.heap.size w);have H:((spec_l2Both.f k l0_0 l0_1 a1 a1).bind fun a6=>(if a6=true then(if 0≤a1 then(if a1<(l0_1.length:Int) then(some (rd l0_1 a1)) else(none)) else(none)) else(some (-1))))=some r:=h;clear h;replace H:=Option.bind_eq_some_iff.mp H;obtain⟨a6,b4,H⟩:=H;replace H:(if a6=true then(if 0≤a1 then(if a1<(l0_1.length:Int) then(some (rd l0_1 a1)) else(none)) else(none)) else(some (-1)))=some r:=H;have A3:=zqm b4;clear b4
 by_cases c4:a6=true
 ·subst c4;(have H1:(if 0≤a1 then(if a1<(l0_1.length:Int) then(some (rd l0_1 a1)) else(none)) else(none))=some r:=by rw [if_pos rfl] at H;exact H);clear H;have H:=H1;clear H1
  by_cases c5:0≤a1
  ·rw [if_pos c5] at H;have d3:decide (0≤a1)=true:=decide_eq_true c5;clear c5
   by_cases c6:a1<(l0_1.length:Int)
   ·rw [if_pos c6] at H;have d4:decide (a1<(l0_1.length:Int))=true:=decide_eq_true c6;clear c6;obtain rfl:=Option.some.inj H
    go_enter Try.func96,Try.ntmps96
    go_wp2_with (first|((with_reducible refine gate_dst (N:=2) rfl ?_);refine box_event ?hg (N:=2) ?hd (cs:= #[.slice A0_0 l0_0.length c0_0,.slice A0_1 l0_1.length c0_1]) (t:=30) ?hr ?_;(case hd=>rfl);(case hg=>rfl);(case hr=>first|(go_simp;done)|(go_simp;rfl));intro a2 hg w7 hbox hb;have a7:=zqm (below_step zr0 hb);have a0:=zqm (hbox);have b3:=zqm ((by rw [hg];exact(below_size zr0):w.heap.size≤a2));have a3:=zqm ((by rw [hg];exact(below_size zr0):w.heap.size≤a2));clear HB;have HB:=a7;clear a7 hb hbox hg;have c8:w7.cell? ⟨a2,0,none⟩=some (.slice A0_0 l0_0.length c0_0):=(blk_cell a0.out 0).trans rfl;have c9:w7.cell? ⟨a2,1,none⟩=some (.slice A0_1 l0_1.length c0_1):=(blk_cell a0.out 1).trans rfl;have d0:=blk_frozen a0.out 0;have d1:=blk_frozen a0.out 1)|((with_reducible refine gate_callee (f:=80) rfl ?_);refine goesL_ (some 8) rfl rfl Try.func80 zqk rfl #[.agg #[.slice A0_0 l0_0.length c0_0,.slice A0_1 l0_1.length c0_1],.int .i64 a1,.int .i64 a1] rfl zr2 ?_;(with_reducible refine(spec_l2Both.calls k _ _ l0_0 _ _ l0_1 a1 a1 true _ ?side1 ?side2 ?side3 ?side4 A3.out).mono ?_);(case side1=> exact zr29);(case side2=>exact b1.out);(case side3=> exact zr5);(case side4=>exact b2.out);rintro e w9 ⟨rfl,hb⟩;refine⟨_,rfl,?_⟩;replace a0:=zqm (blk_below (g:=a2) (o:= .cells #[.slice A0_0 l0_0.length c0_0,.slice A0_1 l0_1.length c0_1] 30 (0,0)) zr1 hb);replace HB:=zqm (below_step zr36 hb);clear hb;have b7:w9.cell? ⟨a2,0,none⟩=some (.slice A0_0 l0_0.length c0_0):=(blk_cell a0.out 0).trans rfl;have b8:w9.cell? ⟨a2,1,none⟩=some (.slice A0_1 l0_1.length c0_1):=(blk_cell a0.out 1).trans rfl;have b9:=blk_frozen a0.out 0;have c0:=blk_frozen a0.out 1;have a8:0≤(a1:Int):=zqo;have a9:a1<(l0_1.length:Int):=zqo;obtain⟨d2,b6,a4⟩:=Kd.at_int a5.out a1 a8 a9;cases b6;replace a4:=(HB.out.cell (World.block_lt_of_cell? w _ a4)).trans a4;replace a8:=eq_true a8;replace a9:=eq_true a9))
    go_ret
    exact⟨zr12,zr36⟩
   ·rw [if_neg c6] at H;exact absurd H (by simp)
  ·rw [if_neg c5] at H;exact absurd H (by simp)
 ·replace c4:=Bool.eq_false_iff.mpr c4;subst c4;(have H1:(some (-1))=some r:=by rw [if_neg (show¬(false=true) by decide)] at H;exact H);clear H;have H:=H1;clear H1;obtain rfl:=Option.some.inj H
  go_enter Try.func96,Try.ntmps96
  go_wp2_with (first|((with_reducible refine gate_dst (N:=2) rfl ?_);refine box_event ?hg (N:=2) ?hd (cs:= #[.slice A0_0 l0_0.length c0_0,.slice A0_1 l0_1.length c0_1]) (t:=30) ?hr ?_;(case hd=>rfl);(case hg=>rfl);(case hr=>first|(go_simp;done)|(go_simp;rfl));intro a2 hg b5 hbox hb;have a7:=zqm (below_step zr0 hb);have a0:=zqm (hbox);have b3:=zqm ((by rw [hg];exact(below_size zr0):w.heap.size≤a2));have a3:=zqm ((by rw [hg];exact(below_size zr0):w.heap.size≤a2));clear HB;have HB:=a7;clear a7 hb hbox hg;have c1:b5.cell? ⟨a2,0,none⟩=some (.slice A0_0 l0_0.length c0_0):=(blk_cell a0.out 0).trans rfl;have c2:b5.cell? ⟨a2,1,none⟩=some (.slice A0_1 l0_1.length c0_1):=(blk_cell a0.out 1).trans rfl;have c3:=blk_frozen a0.out 0;have c7:=blk_frozen a0.out 1)|((with_reducible refine gate_callee (f:=80) rfl ?_);refine goesL_ (some 8) rfl rfl Try.func80 zqk rfl #[.agg #[.slice A0_0 l0_0.length c0_0,.slice A0_1 l0_1.length c0_1],.int .i64 a1,.int .i64 a1] rfl zr2 ?_;(with_reducible refine(spec_l2Both.calls k _ _ l0_0 _ _ l0_1 a1 a1 false _ ?side1 ?side2 ?side3 ?side4 A3.out).mono ?_);(case side1=> exact zr29);(case side2=>exact b1.out);(case side3=> exact zr5);(case side4=>exact b2.out);rintro e d5 ⟨rfl,hb⟩;refine⟨_,rfl,?_⟩;replace a0:=zqm (blk_below (g:=a2) (o:= .cells #[.slice A0_0 l0_0.length c0_0,.slice A0_1 l0_1.length c0_1] 30 (0,0)) zr1 hb);replace HB:=zqm (below_step zr36 hb);clear hb))
  go_ret
  exact⟨zr12,zr36⟩
end Go.Proofs.Ytdoomkcgdcfmlaa.Print
end
section
namespace Go.Proofs.Ytdoomkcgdcfmlaa.Print
open Go.RowKit Go.Proofs.YtdoomkcgdcfmlaaW.PrintWords Go.Proofs.YtdoomkcgdcfmlaaW.PrintLast Go.Proofs.YtdoomkcgdcfmlaaW.PrintMore
mutual
def spec_UpToOf.l0 : Nat → Int → List Int → Int → List (List Int) → List Int → Option (List Int)
 | 0, _, _, _, _, _ => none
 | k + 1, x1, x5, x6, x904000, x904001 => if x6 < (x904001.length : Int) then ((spec_NotOf.f k x904000 x904001 x1).bind fun t907 => (spec_UpToOf.j1 k x1 x5 x6 (decide (t907 ≥ 0)) x904000 x904001)) else (spec_UpToOf.j1 k x1 x5 x6 false x904000 x904001)
def spec_UpToOf.j1 : Nat → Int → List Int → Int → Bool → List (List Int) → List Int → Option (List Int)
 | 0, _, _, _, _, _, _ => none
 | k + 1, x1, x5, x6, x19, x904000, x904001 => if x19 = true then (spec_UpToOf.l1 k x1 x5 x6 0 x904000 x904001) else (some x5)
def spec_UpToOf.l1 : Nat → Int → List Int → Int → Int → List (List Int) → List Int → Option (List Int)
 | 0, _, _, _, _, _, _ => none
 | k + 1, x1, x5, x6, x7, x904000, x904001 => if x7 < (x904001.length : Int) then (if 0 ≤ x1 then (if x1 < (x904001.length : Int) then ((spec_l1Join.f k x904000 (rd x904001 x1) x7).bind fun t909 => ((spec_l1Meet.f k x904000 x1 t909).bind fun t910 => (if t910 = x6 then (if x5.length < 17592186044416 then (spec_UpToOf.l0 k x1 (x5 ++ [x6]) (wrap64 (x6 + 1)) x904000 x904001) else (none)) else (spec_UpToOf.l1 k x1 x5 x6 (wrap64 (x7 + 1)) x904000 x904001)))) else (none)) else (none)) else (spec_UpToOf.l0 k x1 x5 (wrap64 (x6 + 1)) x904000 x904001)
end
def spec_UpToOf.f (k : Nat) (l0_0 : List (List Int)) (l0_1 : List Int) (a1 : Int) : Option (List Int) := spec_UpToOf.l0 k a1 (([] : List Int)) 0 l0_0 l0_1
set_option maxHeartbeats 8000000 in
set_option maxRecDepth 100000 in
theorem spec_UpToOf.calls (k : Nat) (A0_0 : Option Addr) (c0_0 : Nat) (l0_0 : List (List Int)) (A0_1 : Option Addr) (c0_1 : Nat) (l0_1 : List Int) (a1 : Int) (r : List Int) (w : World) (hr0_0 : Kd.C (Kd.slice 3 (Kd.int .i64)) w A0_0 l0_0.length l0_0) (hc0_0 : l0_0.length ≤ c0_0) (hr0_1 : Kd.C (Kd.int .i64) w A0_1 l0_1.length l0_1) (hc0_1 : l0_1.length ≤ c0_1) (h : spec_UpToOf.f k l0_0 l0_1 a1 = some r) :
  Calls Try.prog 53 #[.agg #[.slice A0_0 l0_0.length c0_0, .slice A0_1 l0_1.length c0_1], .int .i64 a1] w fun e w' => ∃ v0_ : Value, e = .returned (v0_) ∧ Kd.R (Kd.int .i64) 3 w' w.heap.size (fun _ => True) v0_ r ∧ Below w.heap.size w w' := by
 have hu30:=Try.underlying30;have a5:=zqm hr0_0;have a6:=zqm hc0_0;clear hr0_0 hc0_0;have b8:=zqm hr0_1;have e0:=zqm hc0_1;clear hr0_1 hc0_1;have HB:=zqm (Below.refl w.heap.size w);have H:(spec_UpToOf.l0 k a1 (([]:List Int)) 0 l0_0 l0_1)=some r:=h;clear h;obtain⟨f4,b9⟩: ∃y_:List Int,y_=(([]:List Int)):=⟨_,rfl⟩;(replace H:(spec_UpToOf.l0 k a1 f4 0 l0_0 l0_1)=some r:=by first|(rw [b9];with_reducible exact H)|(have c8:=(Option.bind_some _ _).symm.trans H;rw [b9];with_reducible exact c8)|(have c8:=(Option.bind_some _ _).symm.trans H;with_reducible exact c8)|with_reducible exact H|(rw [b9];exact H)|exact H);have b4:=zqm b9;clear b9;have H':=zqm H;clear H
 go_enter Try.func53,Try.ntmps53
 go_wp2_with (first|((with_reducible refine gate_dst (N:=2) rfl ?_);refine box_event ?hg (N:=2) ?hd (cs:= #[.slice A0_0 l0_0.length c0_0,.slice A0_1 l0_1.length c0_1]) (t:=30) ?hr ?_;(case hd=>rfl);(case hg=>rfl);(case hr=>first|(go_simp;done)|(go_simp;rfl));intro a3 hg w3 hbox hb;have c2:=zqm (below_step zr0 hb);have a0:=zqm (hbox);have f0:=zqm ((by rw [hg];exact(below_size zr0):w.heap.size≤a3));have a2:=zqm ((by rw [hg];exact(below_size zr0):w.heap.size≤a3));clear HB;have HB:=c2;clear c2 hb hbox hg)|((with_reducible refine gate_dst (N:=8) rfl ?_);refine Kd.R_lit (Kd.int .i64) _ 3 ?hg (N:=8) ?hd (xs:=([]:List Int)) (inner:= []) (ok:=fun _=>True) (okp:=fun _=>True) ?hr ?hp (fun _ hk=>hk) trivial (Below.refl _ _) (Nat.le_refl _) (by simp) ?_;(case hd=>rfl);(case hg=>rfl);(case hr=>first|(go_simp;done)|(go_simp;rfl));(case hp=>exact(Reps.none _ _));intro f5 w4 b2 hb hg_ hnew_;clear hg_ hnew_;(first|rw [← b4.out] at b2|(simp only [Int.reduceToNat] at b2;rw [← b4.out] at b2));have e1:=zqm (Kd.R_lower b2 (below_size zr4));replace a0:=zqm (blk_below (g:=a3) (o:= .cells #[.slice A0_0 l0_0.length c0_0,.slice A0_1 l0_1.length c0_1] 30 (0,0)) zr1 hb);replace HB:=zqm (below_step zr4 hb);clear hb b2))
 repeat(go_quiet (first|((with_reducible refine gate_dst (N:=2) rfl ?_);refine box_event ?hg (N:=2) ?hd (cs:= #[.slice A0_0 l0_0.length c0_0,.slice A0_1 l0_1.length c0_1]) (t:=30) ?hr ?_;(case hd=>rfl);(case hg=>rfl);(case hr=>first|(go_simp;done)|(go_simp;rfl));intro a3 hg w3 hbox hb;have c2:=zqm (below_step zr0 hb);have a0:=zqm (hbox);have f0:=zqm ((by rw [hg];exact(below_size zr0):w.heap.size≤a3));have a2:=zqm ((by rw [hg];exact(below_size zr0):w.heap.size≤a3));clear HB;have HB:=c2;clear c2 hb hbox hg)|((with_reducible refine gate_dst (N:=8) rfl ?_);refine Kd.R_lit (Kd.int .i64) _ 3 ?hg (N:=8) ?hd (xs:=([]:List Int)) (inner:= []) (ok:=fun _=>True) (okp:=fun _=>True) ?hr ?hp (fun _ hk=>hk) trivial (Below.refl _ _) (Nat.le_refl _) (by simp) ?_;(case hd=>rfl);(case hg=>rfl);(case hr=>first|(go_simp;done)|(go_simp;rfl));(case hp=>exact(Reps.none _ _));intro f5 w4 b2 hb hg_ hnew_;clear hg_ hnew_;(first|rw [← b4.out] at b2|(simp only [Int.reduceToNat] at b2;rw [← b4.out] at b2));have e1:=zqm (Kd.R_lower b2 (below_size zr4));replace a0:=zqm (blk_below (g:=a3) (o:= .cells #[.slice A0_0 l0_0.length c0_0,.slice A0_1 l0_1.length c0_1] 30 (0,0)) zr1 hb);replace HB:=zqm (below_step zr4 hb);clear hb b2));try go_wp2_with (first|((with_reducible refine gate_dst (N:=2) rfl ?_);refine box_event ?hg (N:=2) ?hd (cs:= #[.slice A0_0 l0_0.length c0_0,.slice A0_1 l0_1.length c0_1]) (t:=30) ?hr ?_;(case hd=>rfl);(case hg=>rfl);(case hr=>first|(go_simp;done)|(go_simp;rfl));intro a3 hg w3 hbox hb;have c2:=zqm (below_step zr0 hb);have a0:=zqm (hbox);have f0:=zqm ((by rw [hg];exact(below_size zr0):w.heap.size≤a3));have a2:=zqm ((by rw [hg];exact(below_size zr0):w.heap.size≤a3));clear HB;have HB:=c2;clear c2 hb hbox hg)|((with_reducible refine gate_dst (N:=8) rfl ?_);refine Kd.R_lit (Kd.int .i64) _ 3 ?hg (N:=8) ?hd (xs:=([]:List Int)) (inner:= []) (ok:=fun _=>True) (okp:=fun _=>True) ?hr ?hp (fun _ hk=>hk) trivial (Below.refl _ _) (Nat.le_refl _) (by simp) ?_;(case hd=>rfl);(case hg=>rfl);(case hr=>first|(go_simp;done)|(go_simp;rfl));(case hp=>exact(Reps.none _ _));intro f5 w4 b2 hb hg_ hnew_;clear hg_ hnew_;(first|rw [← b4.out] at b2|(simp only [Int.reduceToNat] at b2;rw [← b4.out] at b2));have e1:=zqm (Kd.R_lower b2 (below_size zr4));replace a0:=zqm (blk_below (g:=a3) (o:= .cells #[.slice A0_0 l0_0.length c0_0,.slice A0_1 l0_1.length c0_1] 30 (0,0)) zr1 hb);replace HB:=zqm (below_step zr4 hb);clear hb b2)))
 go_loopg [5,6] k (fun kq v5 v6 w'=> ∃(b3:List Int) (a4:Int),v6= .int .i64 a4∧Aside0 (spec_UpToOf.l0 kq a1 b3 a4 l0_0 l0_1=some r)∧Aside0 (kq≤k)∧Aside0 (Kd.R (Kd.int .i64) 3 w' w.heap.size (fun _=>True) v5 b3)∧Aside0 (w'.heap[a3]? =some (.cells #[(.slice A0_0 l0_0.length c0_0),(.slice A0_1 l0_1.length c0_1)] 30 (0,0)))∧Aside0 (Below w.heap.size w w'))
 case atStart=>exact⟨(f4),(0),(by first|rfl|(simp;done)|(simp [*];done)),H',⟨Nat.le_refl _⟩,⟨zr63⟩,⟨zr1⟩,⟨zr4⟩⟩
 case round=>
  clear H';(try clear p2);(try clear c5);obtain⟨b3,a4,rfl,HA,c3,HO_5,a0,HB⟩:=hrel
  cases gk with
  |zero=>exact absurd HA.out (by simp [spec_UpToOf.l0])
  |succ k1=>
   have H:=HA.out;clear HA;simp only [spec_UpToOf.l0] at H;have f6:=zqm H;clear H
   go_upto_region 3 with (fail)
   repeat(go_quiet (fail);go_upto_region 3 with (fail))
   go_cut [19] (fun i0 wc=> ∃(kq:Nat) (c4:Bool),i0= .bool c4∧Aside0 (spec_UpToOf.j1 kq a1 b3 a4 c4 l0_0 l0_1=some r)∧Aside0 (kq≤k1)∧Aside0 (Kd.R (Kd.int .i64) 3 wc w.heap.size (fun _=>True) u5 b3)∧Aside0 (wc.heap[a3]? =some (.cells #[(.slice A0_0 l0_0.length c0_0),(.slice A0_1 l0_1.length c0_1)] 30 (0,0)))∧Aside0 (Below w.heap.size w wc))
   case first=>
    have H:=f6.out;clear f6
    by_cases c7:a4<(l0_1.length:Int)
    ·rw [if_pos c7] at H;have b5:decide (a4<(l0_1.length:Int))=true:=decide_eq_true c7;clear c7;(first|rw [b5]|(simp only [i64_w,i32_w];rw [b5])|skip);replace H:=Option.bind_eq_some_iff.mp H;obtain⟨c9,g5,H⟩:=H;replace H:(spec_UpToOf.j1 k1 a1 b3 a4 (decide (c9≥0)) l0_0 l0_1)=some r:=H;have A8:=zqm g5;clear g5;have H':=zqm H;clear H;have e4:wr.cell? ⟨a3,0,none⟩=some (.slice A0_0 l0_0.length c0_0):=(blk_cell a0.out 0).trans rfl;have e5:wr.cell? ⟨a3,1,none⟩=some (.slice A0_1 l0_1.length c0_1):=(blk_cell a0.out 1).trans rfl;have e6:=blk_frozen a0.out 0;have e7:=blk_frozen a0.out 1
     go_wp2_with (first|(go_at_call 96;(with_reducible refine(spec_NotOf.calls k1 _ _ l0_0 _ _ l0_1 a1 c9 _ ?side1 ?side2 ?side3 ?side4 A8.out).mono ?_);(case side1=> exact zr5);(case side2=>exact a6.out);(case side3=> exact zr11);(case side4=>exact e0.out);rintro e g6 ⟨rfl,hb⟩;replace HO_5:=zqm (Kd.R_below zr7 hb);replace a0:=zqm (blk_below (g:=a3) (o:= .cells #[.slice A0_0 l0_0.length c0_0,.slice A0_1 l0_1.length c0_1] 30 (0,0)) zr1 hb);replace HB:=zqm (below_step zr4 hb);clear hb))
     repeat(go_quiet (first|(go_at_call 96;(with_reducible refine(spec_NotOf.calls k1 _ _ l0_0 _ _ l0_1 a1 c9 _ ?side1 ?side2 ?side3 ?side4 A8.out).mono ?_);(case side1=> exact zr5);(case side2=>exact a6.out);(case side3=> exact zr11);(case side4=>exact e0.out);rintro e g6 ⟨rfl,hb⟩;replace HO_5:=zqm (Kd.R_below zr7 hb);replace a0:=zqm (blk_below (g:=a3) (o:= .cells #[.slice A0_0 l0_0.length c0_0,.slice A0_1 l0_1.length c0_1] 30 (0,0)) zr1 hb);replace HB:=zqm (below_step zr4 hb);clear hb));try go_wp2_with (first|(go_at_call 96;(with_reducible refine(spec_NotOf.calls k1 _ _ l0_0 _ _ l0_1 a1 c9 _ ?side1 ?side2 ?side3 ?side4 A8.out).mono ?_);(case side1=> exact zr5);(case side2=>exact a6.out);(case side3=> exact zr11);(case side4=>exact e0.out);rintro e g6 ⟨rfl,hb⟩;replace HO_5:=zqm (Kd.R_below zr7 hb);replace a0:=zqm (blk_below (g:=a3) (o:= .cells #[.slice A0_0 l0_0.length c0_0,.slice A0_1 l0_1.length c0_1] 30 (0,0)) zr1 hb);replace HB:=zqm (below_step zr4 hb);clear hb)))
     go_meet
     case rel=>exact⟨_,(decide (c9≥0)),(by first|rfl|(simp;done)|(simp [*];done)),H',⟨by have:=c3.out;first|omega|exact Nat.le_refl _⟩,⟨zr7⟩,⟨zr1⟩,⟨zr4⟩⟩
    ·rw [if_neg c7] at H;have b5:decide (a4<(l0_1.length:Int))=false:=decide_eq_false c7;clear c7;(first|rw [b5]|(simp only [i64_w,i32_w];rw [b5])|skip);have H':=zqm H;clear H;have d1:wr.cell? ⟨a3,0,none⟩=some (.slice A0_0 l0_0.length c0_0):=(blk_cell a0.out 0).trans rfl;have d2:wr.cell? ⟨a3,1,none⟩=some (.slice A0_1 l0_1.length c0_1):=(blk_cell a0.out 1).trans rfl;have d3:=blk_frozen a0.out 0;have d4:=blk_frozen a0.out 1
     go_wp2
     repeat(go_quiet (fail);try go_wp2)
     go_meet
     case rel=>exact⟨_,(false),(by first|rfl|(simp;done)|(simp [*];done)),H',⟨by have:=c3.out;first|omega|exact Nat.le_refl _⟩,⟨zr7⟩,⟨zr1⟩,⟨zr4⟩⟩
   case rest=>
    clear f6;(try clear p2);(try clear c5);(try clear c7);(try clear b5);(try clear d1);(try clear d2);(try clear e4);(try clear e5);(try clear d3);(try clear d4);(try clear e6);(try clear e7);(try clear p2);obtain⟨kq,c4,rfl,HA,d5,HO_5,a0,HB⟩:=hcut
    cases kq with
    |zero=>exact absurd HA.out (by simp [spec_UpToOf.j1])
    |succ f7=>
     have H:=HA.out;clear HA;simp only [spec_UpToOf.j1] at H
     by_cases e8:c4=true
     ·subst e8;(have H1:(spec_UpToOf.l1 f7 a1 b3 a4 0 l0_0 l0_1)=some r:=by rw [if_pos rfl] at H;exact H);clear H;have H:=H1;clear H1;have H':=zqm H;clear H
      go_wp2
      repeat(go_quiet (fail);try go_wp2)
      go_loopg [5,7] f7 (fun kq v5 v7 w'=> ∃(a7:List Int) (a8:Int),v7= .int .i64 a8∧Aside0 (spec_UpToOf.l1 kq a1 a7 a4 a8 l0_0 l0_1=some r)∧Aside0 (kq≤f7)∧Aside0 (Kd.R (Kd.int .i64) 3 w' w.heap.size (fun _=>True) v5 a7)∧Aside0 (w'.heap[a3]? =some (.cells #[(.slice A0_0 l0_0.length c0_0),(.slice A0_1 l0_1.length c0_1)] 30 (0,0)))∧Aside0 (Below w.heap.size w w'))
      case atStart=>exact⟨(b3),(0),(by first|rfl|(simp;done)|(simp [*];done)),H',⟨Nat.le_refl _⟩,⟨zr7⟩,⟨zr1⟩,⟨zr4⟩⟩
      case round=>
       clear H';(try clear c1);(try clear p2);(try clear c5);(try clear c7);(try clear b5);(try clear e8);(try clear d1);(try clear d2);(try clear e4);(try clear e5);(try clear d3);(try clear d4);(try clear e6);(try clear e7);(try clear p2);obtain⟨a7,a8,rfl,HA,d6,HO_5,a0,HB⟩:=hrel
       cases gk with
       |zero=>exact absurd HA.out (by simp [spec_UpToOf.l1])
       |succ k3=>
        have H:=HA.out;clear HA;simp only [spec_UpToOf.l1] at H
        by_cases d7:a8<(l0_1.length:Int)
        ·rw [if_pos d7] at H;have g2:decide (a8<(l0_1.length:Int))=true:=decide_eq_true d7;clear d7
         by_cases f1:0≤a1
         ·rw [if_pos f1] at H;have i1:decide (0≤a1)=true:=decide_eq_true f1;clear f1
          by_cases f2:a1<(l0_1.length:Int)
          ·rw [if_pos f2] at H;have i2:decide (a1<(l0_1.length:Int))=true:=decide_eq_true f2;clear f2;replace H:=Option.bind_eq_some_iff.mp H;obtain⟨b0,f8,H⟩:=H;replace H:((spec_l1Meet.f k3 l0_0 a1 b0).bind fun a9=>(if a9=a4 then(if a7.length<17592186044416 then(spec_UpToOf.l0 k3 a1 (a7 ++ [a4]) (wrap64 (a4+1)) l0_0 l0_1) else(none)) else(spec_UpToOf.l1 k3 a1 a7 a4 (wrap64 (a8+1)) l0_0 l0_1)))=some r:=H;have d8:=zqm f8;clear f8;replace H:=Option.bind_eq_some_iff.mp H;obtain⟨a9,f9,H⟩:=H;replace H:(if a9=a4 then(if a7.length<17592186044416 then(spec_UpToOf.l0 k3 a1 (a7 ++ [a4]) (wrap64 (a4+1)) l0_0 l0_1) else(none)) else(spec_UpToOf.l1 k3 a1 a7 a4 (wrap64 (a8+1)) l0_0 l0_1))=some r:=H;have d9:=zqm f9;clear f9
           by_cases d0:a9=a4
           ·rw [if_pos d0] at H;have g3:(a9==a4)=true:=beq_iff_eq.mpr d0;have g4:(a9 !=a4)=false:=bne_eq_false_iff_eq.mpr d0;clear d0
            by_cases f3:a7.length<17592186044416
            ·rw [if_pos f3] at H;have LMc19:=zqm f3;clear f3;obtain⟨g0,c0⟩: ∃y_:List Int,y_=(a7 ++ [a4]):=⟨_,rfl⟩;(replace H:(spec_UpToOf.l0 k3 a1 g0 (wrap64 (a4+1)) l0_0 l0_1)=some r:=by first|(rw [c0];with_reducible exact H)|(have c8:=(Option.bind_some _ _).symm.trans H;rw [c0];with_reducible exact c8)|(have c8:=(Option.bind_some _ _).symm.trans H;with_reducible exact c8)|with_reducible exact H|(rw [c0];exact H)|exact H);have e2:=zqm c0;clear c0;have H':=zqm H;clear H;have g8:wr.cell? ⟨a3,0,none⟩=some (.slice A0_0 l0_0.length c0_0):=(blk_cell a0.out 0).trans rfl;have g9:wr.cell? ⟨a3,1,none⟩=some (.slice A0_1 l0_1.length c0_1):=(blk_cell a0.out 1).trans rfl;have h0:=blk_frozen a0.out 0;have h1:=blk_frozen a0.out 1;have b6:0≤(a1:Int):=zqo;have b7:a1<(l0_1.length:Int):=zqo;obtain⟨c6,e9,b1⟩:=Kd.at_int b8.out a1 b6 b7
             cases e9
             replace b1:=(HB.out.cell (World.block_lt_of_cell? w _ b1)).trans b1;replace b6:=eq_true b6;replace b7:=eq_true b7
             go_wp2_with (first|(go_at_call 82;(with_reducible refine(spec_l1Join.calls k3 _ _ l0_0 (rd l0_1 a1) a8 b0 _ ?side1 ?side2 d8.out).mono ?_);(case side1=> exact zr5);(case side2=>exact a6.out);rintro e w' ⟨rfl,⟨nd,rfl⟩⟩;(try first|exact⟨rfl,_,World.drewN_drewN _ _ _⟩|exact⟨rfl,_,Eq.trans (World.drewN_drewN _ _ _) (congrArg (World.drewN _) (Nat.add_assoc _ _ _))⟩))|(go_at_call 81;(with_reducible refine(spec_l1Meet.calls k3 _ _ l0_0 a1 b0 a9 _ ?side1 ?side2 d9.out).mono ?_);(case side1=> exact zr10);(case side2=>exact a6.out);rintro e w' ⟨rfl,⟨nd,rfl⟩⟩;(try first|exact⟨rfl,_,World.drewN_drewN _ _ _⟩|exact⟨rfl,_,Eq.trans (World.drewN_drewN _ _ _) (congrArg (World.drewN _) (Nat.add_assoc _ _ _))⟩))|((with_reducible refine gate_builtin (b:= .append) (xs:= #[.tmp 44,.tmp 46]) rfl ?_);at_builtin;refine Kd.R_append (Kd.int .i64) (w0:=w) w.heap.size rfl (.tmp 44) (.tmp 46) 28 3 (.int .i64 0) 8 rfl Try.underlying28 info3 rfl (by decide) (by omega) u5 a7 a4 [.int .i64 a4] (fun _=>True) (fun _=>False) rfl rfl ?aP (fun _ hk=>hk.elim) ?aF ?aO ?aB ?aS ?aL ?_;(case aP=>exact rfl);(case aB=> exact zr43);(case aF=>exact(fun _ _=>trivial));(case aO=> exact zr55);(case aS=> exact zr37);(case aL=>have:=LMc19.out;omega);intro g1 g7 ho hb hg hat;rw [← e2.out] at ho;replace a0:=zqm (blk_grown (g:=a3) (o:= .cells #[.slice A0_0 l0_0.length c0_0,.slice (some c6) l0_1.length c0_1] 30 (0,0)) zr1 hg (Kd.R_ne HO_5.out a0.out (by decide)));replace HB:=zqm (hb);have e3:=zqm (ho);clear HO_5;clear ho hb hg hat))
             repeat(go_quiet (first|(go_at_call 82;(with_reducible refine(spec_l1Join.calls k3 _ _ l0_0 (rd l0_1 a1) a8 b0 _ ?side1 ?side2 d8.out).mono ?_);(case side1=> exact zr5);(case side2=>exact a6.out);rintro e w' ⟨rfl,⟨nd,rfl⟩⟩;(try first|exact⟨rfl,_,World.drewN_drewN _ _ _⟩|exact⟨rfl,_,Eq.trans (World.drewN_drewN _ _ _) (congrArg (World.drewN _) (Nat.add_assoc _ _ _))⟩))|(go_at_call 81;(with_reducible refine(spec_l1Meet.calls k3 _ _ l0_0 a1 b0 a9 _ ?side1 ?side2 d9.out).mono ?_);(case side1=> exact zr10);(case side2=>exact a6.out);rintro e w' ⟨rfl,⟨nd,rfl⟩⟩;(try first|exact⟨rfl,_,World.drewN_drewN _ _ _⟩|exact⟨rfl,_,Eq.trans (World.drewN_drewN _ _ _) (congrArg (World.drewN _) (Nat.add_assoc _ _ _))⟩))|((with_reducible refine gate_builtin (b:= .append) (xs:= #[.tmp 44,.tmp 46]) rfl ?_);at_builtin;refine Kd.R_append (Kd.int .i64) (w0:=w) w.heap.size rfl (.tmp 44) (.tmp 46) 28 3 (.int .i64 0) 8 rfl Try.underlying28 info3 rfl (by decide) (by omega) u5 a7 a4 [.int .i64 a4] (fun _=>True) (fun _=>False) rfl rfl ?aP (fun _ hk=>hk.elim) ?aF ?aO ?aB ?aS ?aL ?_;(case aP=>exact rfl);(case aB=> exact zr43);(case aF=>exact(fun _ _=>trivial));(case aO=> exact zr55);(case aS=> exact zr37);(case aL=>have:=LMc19.out;omega);intro g1 g7 ho hb hg hat;rw [← e2.out] at ho;replace a0:=zqm (blk_grown (g:=a3) (o:= .cells #[.slice A0_0 l0_0.length c0_0,.slice (some c6) l0_1.length c0_1] 30 (0,0)) zr1 hg (Kd.R_ne HO_5.out a0.out (by decide)));replace HB:=zqm (hb);have e3:=zqm (ho);clear HO_5;clear ho hb hg hat));try go_wp2_with (first|(go_at_call 82;(with_reducible refine(spec_l1Join.calls k3 _ _ l0_0 (rd l0_1 a1) a8 b0 _ ?side1 ?side2 d8.out).mono ?_);(case side1=> exact zr5);(case side2=>exact a6.out);rintro e w' ⟨rfl,⟨nd,rfl⟩⟩;(try first|exact⟨rfl,_,World.drewN_drewN _ _ _⟩|exact⟨rfl,_,Eq.trans (World.drewN_drewN _ _ _) (congrArg (World.drewN _) (Nat.add_assoc _ _ _))⟩))|(go_at_call 81;(with_reducible refine(spec_l1Meet.calls k3 _ _ l0_0 a1 b0 a9 _ ?side1 ?side2 d9.out).mono ?_);(case side1=> exact zr10);(case side2=>exact a6.out);rintro e w' ⟨rfl,⟨nd,rfl⟩⟩;(try first|exact⟨rfl,_,World.drewN_drewN _ _ _⟩|exact⟨rfl,_,Eq.trans (World.drewN_drewN _ _ _) (congrArg (World.drewN _) (Nat.add_assoc _ _ _))⟩))|((with_reducible refine gate_builtin (b:= .append) (xs:= #[.tmp 44,.tmp 46]) rfl ?_);at_builtin;refine Kd.R_append (Kd.int .i64) (w0:=w) w.heap.size rfl (.tmp 44) (.tmp 46) 28 3 (.int .i64 0) 8 rfl Try.underlying28 info3 rfl (by decide) (by omega) u5 a7 a4 [.int .i64 a4] (fun _=>True) (fun _=>False) rfl rfl ?aP (fun _ hk=>hk.elim) ?aF ?aO ?aB ?aS ?aL ?_;(case aP=>exact rfl);(case aB=> exact zr43);(case aF=>exact(fun _ _=>trivial));(case aO=> exact zr55);(case aS=> exact zr37);(case aL=>have:=LMc19.out;omega);intro g1 g7 ho hb hg hat;rw [← e2.out] at ho;replace a0:=zqm (blk_grown (g:=a3) (o:= .cells #[.slice A0_0 l0_0.length c0_0,.slice (some c6) l0_1.length c0_1] 30 (0,0)) zr1 hg (Kd.R_ne HO_5.out a0.out (by decide)));replace HB:=zqm (hb);have e3:=zqm (ho);clear HO_5;clear ho hb hg hat)))
             go_roundg k3
             (case measure=> exact zr61);case rel=>exact⟨(g0),(wrap64 (a4+1)),(by first|rfl|(simp;done)|(simp [*];done)),H',⟨zr61⟩,⟨by(with_reducible repeat(first|apply Kd.R_alloc|apply Kd.R_drewN|apply Kd.R_drew));exact e3.out⟩,⟨zr1⟩,⟨zr4⟩⟩
            ·rw [if_neg f3] at H;exact absurd H (by simp)
           ·rw [if_neg d0] at H;have g3:(a9==a4)=false:=beq_eq_false_iff_ne.mpr d0;have g4:(a9 !=a4)=true:=bne_iff_ne.mpr d0;have H':=zqm H;clear H;have h2:wr.cell? ⟨a3,0,none⟩=some (.slice A0_0 l0_0.length c0_0):=(blk_cell a0.out 0).trans rfl;have h3:wr.cell? ⟨a3,1,none⟩=some (.slice A0_1 l0_1.length c0_1):=(blk_cell a0.out 1).trans rfl;have h4:=blk_frozen a0.out 0;have h5:=blk_frozen a0.out 1;have b6:0≤(a1:Int):=zqo;have b7:a1<(l0_1.length:Int):=zqo;obtain⟨c6,e9,b1⟩:=Kd.at_int b8.out a1 b6 b7
            cases e9
            replace b1:=(HB.out.cell (World.block_lt_of_cell? w _ b1)).trans b1;replace b6:=eq_true b6;replace b7:=eq_true b7
            go_wp2_with (first|(go_at_call 82;(with_reducible refine(spec_l1Join.calls k3 _ _ l0_0 (rd l0_1 a1) a8 b0 _ ?side1 ?side2 d8.out).mono ?_);(case side1=> exact zr5);(case side2=>exact a6.out);rintro e w' ⟨rfl,⟨nd,rfl⟩⟩;(try first|exact⟨rfl,_,World.drewN_drewN _ _ _⟩|exact⟨rfl,_,Eq.trans (World.drewN_drewN _ _ _) (congrArg (World.drewN _) (Nat.add_assoc _ _ _))⟩))|(go_at_call 81;(with_reducible refine(spec_l1Meet.calls k3 _ _ l0_0 a1 b0 a9 _ ?side1 ?side2 d9.out).mono ?_);(case side1=> exact zr10);(case side2=>exact a6.out);rintro e w' ⟨rfl,⟨nd,rfl⟩⟩;(try first|exact⟨rfl,_,World.drewN_drewN _ _ _⟩|exact⟨rfl,_,Eq.trans (World.drewN_drewN _ _ _) (congrArg (World.drewN _) (Nat.add_assoc _ _ _))⟩)))
            repeat(go_quiet (first|(go_at_call 82;(with_reducible refine(spec_l1Join.calls k3 _ _ l0_0 (rd l0_1 a1) a8 b0 _ ?side1 ?side2 d8.out).mono ?_);(case side1=> exact zr5);(case side2=>exact a6.out);rintro e w' ⟨rfl,⟨nd,rfl⟩⟩;(try first|exact⟨rfl,_,World.drewN_drewN _ _ _⟩|exact⟨rfl,_,Eq.trans (World.drewN_drewN _ _ _) (congrArg (World.drewN _) (Nat.add_assoc _ _ _))⟩))|(go_at_call 81;(with_reducible refine(spec_l1Meet.calls k3 _ _ l0_0 a1 b0 a9 _ ?side1 ?side2 d9.out).mono ?_);(case side1=> exact zr10);(case side2=>exact a6.out);rintro e w' ⟨rfl,⟨nd,rfl⟩⟩;(try first|exact⟨rfl,_,World.drewN_drewN _ _ _⟩|exact⟨rfl,_,Eq.trans (World.drewN_drewN _ _ _) (congrArg (World.drewN _) (Nat.add_assoc _ _ _))⟩)));try go_wp2_with (first|(go_at_call 82;(with_reducible refine(spec_l1Join.calls k3 _ _ l0_0 (rd l0_1 a1) a8 b0 _ ?side1 ?side2 d8.out).mono ?_);(case side1=> exact zr5);(case side2=>exact a6.out);rintro e w' ⟨rfl,⟨nd,rfl⟩⟩;(try first|exact⟨rfl,_,World.drewN_drewN _ _ _⟩|exact⟨rfl,_,Eq.trans (World.drewN_drewN _ _ _) (congrArg (World.drewN _) (Nat.add_assoc _ _ _))⟩))|(go_at_call 81;(with_reducible refine(spec_l1Meet.calls k3 _ _ l0_0 a1 b0 a9 _ ?side1 ?side2 d9.out).mono ?_);(case side1=> exact zr10);(case side2=>exact a6.out);rintro e w' ⟨rfl,⟨nd,rfl⟩⟩;(try first|exact⟨rfl,_,World.drewN_drewN _ _ _⟩|exact⟨rfl,_,Eq.trans (World.drewN_drewN _ _ _) (congrArg (World.drewN _) (Nat.add_assoc _ _ _))⟩))))
            go_roundg k3
            (case measure=> exact zr61);case rel=>exact⟨(a7),(wrap64 (a8+1)),(by first|rfl|(simp;done)|(simp [*];done)),H',⟨zr61⟩,⟨zr7⟩,⟨zr1⟩,⟨zr4⟩⟩
          ·rw [if_neg f2] at H;exact absurd H (by simp)
         ·rw [if_neg f1] at H;exact absurd H (by simp)
        ·rw [if_neg d7] at H;have g2:decide (a8<(l0_1.length:Int))=false:=decide_eq_false d7;clear d7;have H':=zqm H;clear H;have h6:wr.cell? ⟨a3,0,none⟩=some (.slice A0_0 l0_0.length c0_0):=(blk_cell a0.out 0).trans rfl;have h7:wr.cell? ⟨a3,1,none⟩=some (.slice A0_1 l0_1.length c0_1):=(blk_cell a0.out 1).trans rfl;have h8:=blk_frozen a0.out 0;have h9:=blk_frozen a0.out 1
         go_wp2
         repeat(go_quiet (fail);try go_wp2)
         go_roundg k3
         (case measure=> exact zr61);case rel=>exact⟨(a7),(wrap64 (a4+1)),(by first|rfl|(simp;done)|(simp [*];done)),H',⟨zr61⟩,⟨zr7⟩,⟨zr1⟩,⟨zr4⟩⟩
     ·replace e8:=Bool.eq_false_iff.mpr e8;subst e8;(have H1:(some b3)=some r:=by rw [if_neg (show¬(false=true) by decide)] at H;exact H);clear H;have H:=H1;clear H1;obtain rfl:=Option.some.inj H
      go_wp2
      repeat(go_quiet (fail);try go_wp2)
      go_ret
      exact⟨_,zr12,zr7,zr4⟩
end Go.Proofs.Ytdoomkcgdcfmlaa.Print
end
section
namespace Go.Proofs.Ytdoomkcgdcfmlaa.Print
open Go.RowKit Go.Proofs.YtdoomkcgdcfmlaaW.PrintWords Go.Proofs.YtdoomkcgdcfmlaaW.PrintLast Go.Proofs.YtdoomkcgdcfmlaaW.PrintMore
def laws_ascend.l0 : Nat → List Int → Int → Option (Bool)
 | 0, _, _ => none
 | k + 1, x0, x3 => if x3 < (x0.length : Int) then (if 0 ≤ (wrap64 (x3 - 1)) then (if (wrap64 (x3 - 1)) < (x0.length : Int) then (if 0 ≤ x3 then (if (rd x0 (wrap64 (x3 - 1))) ≥ (rd x0 x3) then (some false) else (laws_ascend.l0 k x0 (wrap64 (x3 + 1)))) else (none)) else (none)) else (none)) else (some true)
def laws_ascend.f (k : Nat) (l0 : List Int) : Option (Bool) := laws_ascend.l0 k l0 1
set_option maxHeartbeats 8000000 in
set_option maxRecDepth 100000 in
theorem laws_ascend.calls (k : Nat) (A0 : Option Addr) (c0 : Nat) (l0 : List Int) (r : Bool) (w : World) (hr0 : Kd.C (Kd.int .i64) w A0 l0.length l0) (hc0 : l0.length ≤ c0) (h : laws_ascend.f k l0 = some r) :
  Calls Try.prog 54 #[.slice A0 l0.length c0] w fun e w' => e = .returned (.bool r) ∧ Drawn0 w w' := by
 have b1:=zqm hr0;have c3:=zqm hc0;clear hr0 hc0;have H:(laws_ascend.l0 k l0 1)=some r:=h;clear h;have H':=zqm H;clear H
 go_enter Try.func54,Try.ntmps54
 go_wp2
 repeat(go_quiet (fail);try go_wp2)
 go_loopg [3] k (fun kq v3 w'=> ∃(a0:Int),v3= .int .i64 a0∧Aside0 (laws_ascend.l0 kq l0 a0=some r)∧Aside0 (kq≤k)∧Drawn0 w w')
 case atStart=>exact⟨(1),(by first|rfl|(simp;done)|(simp [*];done)),H',⟨Nat.le_refl _⟩,zr30⟩
 case round=>
  clear H';obtain⟨a0,rfl,HA,b4,⟨m1,rfl⟩⟩:=hrel
  cases gk with
  |zero=>exact absurd HA.out (by simp [laws_ascend.l0])
  |succ k1=>
   have H:=HA.out;clear HA;simp only [laws_ascend.l0] at H
   by_cases c2:a0<(l0.length:Int)
   ·rw [if_pos c2] at H;have b5:decide (a0<(l0.length:Int))=true:=decide_eq_true c2;clear c2;obtain⟨a1,a6⟩: ∃j_:Int,(wrap64 (a0 - 1))=j_:=⟨_,rfl⟩;(replace H:(if 0≤(a1) then(if(a1)<(l0.length:Int) then(if 0≤a0 then(if(rd l0 (a1))≥(rd l0 a0) then(some false) else(laws_ascend.l0 k1 l0 (wrap64 (a0+1)))) else(none)) else(none)) else(none))=some r:=by first|(rw [a6] at H;exact H)|(simp only [a6] at H ⊢;exact H));have b7:(IntKind.i64.wrap (a0 - 1))=a1:=(i64_w _).trans a6
    by_cases c4:0≤(a1)
    ·rw [if_pos c4] at H;have b8:decide (0≤(a1))=true:=decide_eq_true c4;clear c4
     by_cases c5:(a1)<(l0.length:Int)
     ·rw [if_pos c5] at H;have b9:decide ((a1)<(l0.length:Int))=true:=decide_eq_true c5;clear c5
      by_cases c6:0≤a0
      ·rw [if_pos c6] at H;have c1:decide (0≤a0)=true:=decide_eq_true c6;clear c6
       by_cases c7:(rd l0 (a1))≥(rd l0 a0)
       ·rw [if_pos c7] at H;have b6:decide ((rd l0 a0)≤(rd l0 (a1)))=true:=decide_eq_true c7;clear c7;obtain rfl:=Option.some.inj H;have a2:0≤((a1):Int):=zqo;have a3:(a1)<(l0.length:Int):=zqo;obtain⟨a7,a9,b2⟩:=Kd.at_int b1.out (a1) a2 a3
        cases a9
        replace a2:=eq_true a2;replace a3:=eq_true a3;have a4:0≤(a0:Int):=zqo;have a5:a0<(l0.length:Int):=zqo;obtain⟨a8,b0,b3⟩:=Kd.at_int b1.out a0 a4 a5;obtain rfl:a7=a8:=(by injection b0);replace a4:=eq_true a4;replace a5:=eq_true a5
        go_wp2
        repeat(go_quiet (fail);try go_wp2)
        go_ret
        exact⟨by first|rfl|(simp;done)|(simp only [← a6] <;> (first|rfl|simp))|(simp [*];done),zr30⟩
       ·rw [if_neg c7] at H;have b6:decide ((rd l0 a0)≤(rd l0 (a1)))=false:=decide_eq_false c7;clear c7;have H':=zqm H;clear H;have a2:0≤((a1):Int):=zqo;have a3:(a1)<(l0.length:Int):=zqo;obtain⟨a7,a9,b2⟩:=Kd.at_int b1.out (a1) a2 a3
        cases a9
        replace a2:=eq_true a2;replace a3:=eq_true a3;have a4:0≤(a0:Int):=zqo;have a5:a0<(l0.length:Int):=zqo;obtain⟨a8,b0,b3⟩:=Kd.at_int b1.out a0 a4 a5;obtain rfl:a7=a8:=(by injection b0);replace a4:=eq_true a4;replace a5:=eq_true a5
        go_wp2
        repeat(go_quiet (fail);try go_wp2)
        go_roundg k1
        (case measure=>have:=b4.out;omega);case rel=>exact⟨(wrap64 (a0+1)),(by first|rfl|(simp;done)|(simp [*];done)),H',⟨by have:=b4.out;omega⟩,zr30⟩
      ·rw [if_neg c6] at H;exact absurd H (by simp)
     ·rw [if_neg c5] at H;exact absurd H (by simp)
    ·rw [if_neg c4] at H;exact absurd H (by simp)
   ·rw [if_neg c2] at H;have b5:decide (a0<(l0.length:Int))=false:=decide_eq_false c2;clear c2;obtain rfl:=Option.some.inj H
    go_wp2
    repeat(go_quiet (fail);try go_wp2)
    go_ret
    exact⟨by first|rfl|(simp;done)|(simp [*];done),zr30⟩
end Go.Proofs.Ytdoomkcgdcfmlaa.Print
end
section
namespace Oml
universe u
namespace OL
variable {α : Type u} (L : OL α)
theorem neg_inj {a b : α} (h : L.neg a = L.neg b) : a = b := by
  have := congrArg L.neg h; rwa [L.neg_neg, L.neg_neg] at this
theorem neg_join (a b : α) : L.neg (L.join a b) = L.meet (L.neg a) (L.neg b) := by
  apply L.neg_inj
  rw [L.neg_neg, L.neg_meet, L.neg_neg, L.neg_neg]
def Keeps : Prop := ∀ a b, L.le a b → L.join a (L.meet b (L.neg a)) = b
def proj (a b : α) : α := L.meet a (L.join (L.neg a) b)
variable {L}
theorem Keeps.dual (K : L.Keeps) {a b : α} (h : L.le a b) : L.meet b (L.join a (L.neg b)) = a := by
  have := K _ _ (L.neg_anti _ _ h)
  have h2 := congrArg L.neg this
  rw [L.neg_join, L.neg_meet, L.neg_neg, L.neg_neg] at h2
  exact h2
theorem proj_le (a b : α) : L.le (L.proj a b) a := L.meet_l _ _
theorem Keeps.proj_below (K : L.Keeps) {a b : α} (h : L.le b a) : L.proj a b = b := by
  have := K.dual h
  unfold proj; rwa [L.join_comm]
end OL
end Oml
end
section
namespace Oml
theorem allN_false {n : Nat} {p : Nat → Bool} : allN n p = false ↔ ∃ i, i < n ∧ p i = false := by
  rw [← Bool.not_eq_true,allN_iff]
  constructor
  · intro h
    apply Classical.byContradiction
    intro k
    exact h fun i hi => by
      cases e:p i
      · exact absurd ⟨i,hi,e⟩ k
      · rfl
  · rintro ⟨i, hi, e⟩ h
    rw [h i hi] at e
    exact absurd e (by simp)
section
variable {U : List (List Int)} {N : List Int} (L : Logic U N)
theorem Logic.ng_eq (a : Fin U.length) : at1 N a = ((L.ng a).1 : Int) := by
  have := L.ran a a.2
  show at1 N a = (((at1 N a).toNat : Nat) : Int)
  omega
include L in
end
end Oml
end
section
namespace Go.Proofs.Ytdoomkcgdcfmlaa.Print
open Go.RowKit Go.Proofs.YtdoomkcgdcfmlaaW.PrintWords Go.Proofs.YtdoomkcgdcfmlaaW.PrintLast Go.Proofs.YtdoomkcgdcfmlaaW.PrintMore
open Oml
def inR (n : Nat) (a : Int) : Bool := decide (0 ≤ a) && decide (a < (n : Int))
theorem inR_iff {U : List (List Int)} {a : Int} : inR U.length a = true ↔ In U a := by simp [inR, In]
section
variable {U : List (List Int)} {N : List Int} (L : Logic U N)
include L
theorem _root_.Oml.Logic.in_and {a b : Int} (ha : In U a) (hb : In U b) : In U (andI U a b) := by
  obtain⟨m,hm⟩:=Option.isSome_iff_exists.1 (L.meets a.toNat b.toNat (by have:=ha.1;have:=ha.2;omega) (by have:=hb.1;have:=hb.2;omega))
  have:=(findN_some hm).1
  unfold In andI mI;rw [hm];simp only [optI];omega
theorem _root_.Oml.Logic.in_or {a b : Int} (ha : In U a) (hb : In U b) : In U (orI U a b) := by
  obtain⟨m,hm⟩:=Option.isSome_iff_exists.1 (L.joins a.toNat b.toNat (by have:=ha.1;have:=ha.2;omega) (by have:=hb.1;have:=hb.2;omega))
  have:=(findN_some hm).1
  unfold In orI jI;rw [hm];simp only [optI];omega
theorem _root_.Oml.Logic.in_not {a : Int} (ha : In U a) : In U (notI N a) := L.ran a.toNat (by have := ha.1; have := ha.2; omega)
end
namespace View
section
variable {W W1 : World} {g : Nat} {U : List (List Int)} {N : List Int} {v : Adr} (h : View W g U N v)
include h
theorem rowsU (L : Logic U N) : Kd.C (Kd.slice 3 (Kd.int .i64)) W (some v.aU) U.length U := by
  have hs:=L.small
  refine⟨rfl,by omega,fun _=>⟨v.aU,rfl,fun j p hp=>?_⟩⟩
  have hj:j<U.length:=(List.getElem?_eq_some_iff.1 hp).1
  have hin:In U (j:Int):=⟨by omega,by omega⟩
  have hpl : p.length = U.length := by
    have:=L.row j hj
    rw [List.getD_eq_getElem?_getD,hp] at this
    exact this
  refine⟨[.slice (some (v.rU j)) p.length (v.qU j)],rfl,⟨some (v.rU j),v.qU j,rfl,by rw [hpl];have:=h.capR _ hin;simpa using this,?_⟩,fun i u hu=>?_⟩
  · refine ⟨rfl, by omega, fun _ => ⟨v.rU j, rfl, fun i q hq => ?_⟩⟩
    have hi:i<p.length:=(List.getElem?_eq_some_iff.1 hq).1
    refine⟨[.int .i64 q],rfl,rfl,fun z u hu=>?_⟩
    have hz : z = 0 := by
      rcases z with _|z
      · rfl
      · simp at hu
    subst hz
    have hu':Value.int .i64 q=u:=by simpa using hu
    subst hu'
    have:=h.u2 j i hin ⟨by omega,by omega⟩
    simp only [Int.toNat_natCast] at this
    show W.cell? ((v.rU j).add (i*1+0))=_
    rw [Nat.mul_one,Nat.add_zero,this]
    simp [at2,List.getD_eq_getElem?_getD,hp,hq]
  · have hz : i = 0 := by
      rcases i with _|z
      · rfl
      · simp at hu
    subst hz
    have hu':Value.slice (some (v.rU j)) p.length (v.qU j)=u:=by simpa using hu
    subst hu'
    have:=h.u j hin
    simp only [Int.toNat_natCast] at this
    show W.cell? (v.aU.add (j*1+0))=_
    rw [Nat.mul_one,Nat.add_zero,this,hpl]
end
end View
end Go.Proofs.Ytdoomkcgdcfmlaa.Print
end
section
namespace Go.Proofs.Ytdoomkcgdcfmlaa.Print
open Go.RowKit Go.Proofs.YtdoomkcgdcfmlaaW.PrintWords Go.Proofs.YtdoomkcgdcfmlaaW.PrintLast Go.Proofs.YtdoomkcgdcfmlaaW.PrintMore
open Oml
theorem lit_C (W : World) (e : TypeId) (xs : List Int) (hm : xs.length ≤ 9223372036854775807) :
    Kd.C (Kd.int .i64) (W.alloc (.cells (nums .i64 xs).toArray e)) (some ⟨W.heap.size,0,none⟩) xs.length xs:=
  (Kd.R_reads' (Kd.R_of_own (ok:=fun _=>True) (own_lit W W.heap.size e .i64 xs (Nat.le_refl _) hm) (fun _ _=>trivial))).2.2
theorem isAnswer_eq (U : List (List Int)) (a : Int) : impl_isAnswer.f U a = some (inR U.length a) := by
  unfold impl_isAnswer.f inR
  by_cases h : a ≥ 0
  · rw [if_pos h]; simp [h]
  · rw [if_neg h]; simp; omega
theorem knows_nil (A : Option Addr) (n c : Nat) (w : World) :
    Calls Try.prog 78 #[.pointer none, .slice A n c] w fun e w' => e = .returned (.bool false) ∧ Below w.heap.size w w' := by
  go_enter Try.func78, Try.ntmps78
  go_wp2_with fail
  go_ret
  exact ⟨rfl, Below.refl _ _⟩
set_option maxHeartbeats 1000000 in
theorem knows_calls (g : Nat) (U : List (List Int)) (N : List Int) (v : Adr) (w : World) (L : Logic U N) (hV : View w g U N v) (A : Option Addr) (c : Nat) (xs : List Int) (n : Nat) (hn : xs.length = n)
    (hr:Kd.C (Kd.int .i64) w A n xs) (hs:n≤100) (b:Bool) (hb:xs.all (inR U.length)=b):
    Calls Try.prog 78 #[.pointer (some ⟨g,0,none⟩),.slice A n c] w fun e w'=>e= .returned (.bool b)∧Below w.heap.size w w':=by
  have hu70:=Try.underlying70
  have HV:=Aside0.mk hV
  have HR:=Aside0.mk hr
  have HL:=Aside0.mk L
  have HN:=Aside0.mk hn
  have HBB:=Aside0.mk hb
  clear hV hr L hn hb
  go_enter Try.func78,Try.ntmps78
  go_wp2_with fail
  go_loopg [11] (n+1) (fun kq v11 W=> ∃i m:Nat,v11= .int .i64 i∧Aside0 (i+kq=n+1)∧Aside0 (i≤n)∧Aside0 (∀j,j<i→inR U.length (at1 xs j)=true)∧W=w.drewN m)
  case atStart=>exact⟨0,0,rfl,⟨by omega⟩,⟨by omega⟩,⟨fun j hj=>absurd hj (by omega)⟩,rfl⟩
  case round =>
    obtain⟨i,m,rfl,HK,HK2,HS,rfl⟩:=hrel
    cases gk with
    |zero=>exact absurd HK.out (by have:=HK2.out;omega)
    |succ kn=>
    by_cases hlt:i<n
    · have hlt' : decide (i < n) = true := decide_eq_true hlt
      have HLT:=Aside0.mk hlt
      obtain⟨ad,e,hx⟩:=ints_cell HR.out i (by omega) (by omega)
      subst e
      simp only [Int.toNat_natCast] at hx
      have p1:(i<n)=True:=eq_true hlt
      have h0:=HV.out.f0
      have HUC:=Aside0.mk (HV.out.rowsU HL.out)
      clear hlt
      cases hi:inR U.length (at1 xs i) with
      | true =>
        have HI:=Aside0.mk hi
        have HA:=Aside0.mk (show impl_isAnswer.f U (at1 xs i)=some true by rw [isAnswer_eq,hi])
        clear hi
        go_wp2_with (go_at_call 123;(with_reducible refine(impl_isAnswer.calls _ _ U (at1 xs i) true _ ?s1 ?s2 HA.out).mono ?_);(case s1=> exact zr65);(case s2=>exact HV.out.capU);rintro e w' ⟨rfl,⟨nd,rfl⟩⟩)
        go_roundg kn
        case measure=>omega
        case rel => exact ⟨i + 1, _, by first | go_num | (rw [wrap_small (by omega) (by have := HLT.out; omega)]; go_num), ⟨by have := HK.out; omega⟩, ⟨by have := HLT.out; omega⟩, ⟨fun j hj => by
          rcases Nat.lt_or_ge j i with h|h
          · exact HS.out j h
          · obtain rfl : j = i := by omega
            exact HI.out⟩,rfl⟩
      | false =>
        have HI:=Aside0.mk hi
        have HA:=Aside0.mk (show impl_isAnswer.f U (at1 xs i)=some false by rw [isAnswer_eq,hi])
        clear hi
        have hbf : b = false := by
          rw [← HBB.out,Bool.eq_false_iff]
          intro h
          rw [List.all_eq_true] at h
          have hin:i<xs.length:=by have:=HN.out;have:=HLT.out;omega
          have:=h (xs[i]'hin) (List.getElem_mem _)
          have h2:=HI.out
          rw [show at1 xs i=xs[i]'hin by simp [at1,List.getD_eq_getElem?_getD,List.getElem?_eq_getElem hin],this] at h2
          exact absurd h2 (by simp)
        subst hbf
        go_wp2_with (go_at_call 123;(with_reducible refine(impl_isAnswer.calls _ _ U (at1 xs i) false _ ?s1 ?s2 HA.out).mono ?_);(case s1=> exact zr65);(case s2=>exact HV.out.capU);rintro e w' ⟨rfl,⟨nd,rfl⟩⟩)
        go_ret
        exact⟨rfl,zr66⟩
    · have hlt' : decide (i < n) = false := decide_eq_false hlt
      obtain rfl:i=n:=by have:=HK2.out;omega
      have hbt : b = true := by
        rw [← HBB.out,List.all_eq_true]
        intro x hx
        obtain⟨j,hj,rfl⟩:=List.mem_iff_getElem.1 hx
        have:=HS.out j (by have:=HN.out;omega)
        rwa [show at1 xs j=xs[j]'hj by simp [at1,List.getD_eq_getElem?_getD,List.getElem?_eq_getElem hj]] at this
      subst hbt
      clear hlt
      go_wp2_with fail
      go_ret
      exact⟨rfl,zr66⟩
theorem goesV_ {P : Program} {ops : Array Oper} {Q : Exit → Act → World → Prop} {rest : List Oper} {oi : Oper} {a : Act} {w : World} (N : Option Tmp) (hd : oi.dst = N) (hg : oi.guard = none) {f : FuncId} {fn : Func} {x : Operand} {xo : Array Operand} {ts : Array TypeId} {cs : Array Value}
    (hf : P.funcs[f]? = some fn) (hname : (fn.name == "runtime.NumGoroutine") = false) (hb : fn.body.isSome = true) (args : Array Value)
    (hop : oi.op = .call { callee := .value x, args := xo, argTypes := ts }) (hx : a.eval x = .func (.func f) #[] cs) (hargs : xo.map a.eval = args)
    (h : Calls P f (args ++ cs) w fun e w' => ∃ v, e = .returned v ∧ wpList P ops Q rest (a.put N v) w') : wpList P ops Q (oi :: rest) a w := by
  refine wpList_plain hg fun K hK => ?_
  have he := enters_ hf hname hb (args ++ cs) w
  have hrun : (execOp a.eval oi).run P w = .ok (.enter f (args ++ cs)) w := by
    unfold execOp
    simp [hop, resolve, Deferred.ofValue, invoke, hx, hargs, he]
  unfold Oper.wp
  rw [hrun, Oper.upon_enter]
  refine h.mono fun e w'' hh => ?_
  obtain ⟨v, rfl, hk⟩ := hh
  subst hd
  exact hK _ _ hk
def filI (n : Nat) (p : Nat → Bool) : List Int := ((List.range n).filter p).map fun (a : Nat) => (a : Int)
theorem filI_succ (n : Nat) (p : Nat → Bool) : filI (n + 1) p = if p n = true then filI n p ++ [(n : Int)] else filI n p := by
  unfold filI
  rw [List.range_succ, List.filter_append, List.map_append]
  cases h : p n <;> simp [h]
theorem filI_length (n : Nat) (p : Nat → Bool) : (filI n p).length ≤ n := by
  unfold filI
  rw [List.length_map]
  exact Nat.le_trans (List.length_filter_le _ _) (by simp)
set_option maxHeartbeats 1000000 in
set_option maxRecDepth 100000 in
theorem all_calls (g : Nat) (U : List (List Int)) (N : List Int) (v : Adr) (w : World) (hs : U.length ≤ 12) (hV : View w g U N v) (fv : Nat) (fn : Func) (cs : Array Value) (hf : Try.prog.funcs[fv]? = some fn) (hname : (fn.name == "runtime.NumGoroutine") = false) (hb : fn.body.isSome = true)
    (p : Nat → Bool) (step : ∀ a : Nat, a < U.length → ∀ W, Below w.heap.size w W → Calls Try.prog fv (#[.int .i64 a] ++ cs) W fun e w'' => e = .returned (.bool (p a)) ∧ Below W.heap.size W w'') :
    Calls Try.prog 91 #[.pointer (some ⟨g, 0, none⟩), .func (.func fv) #[] cs] w fun e w' => ∃ v0, e = .returned v0 ∧ Kd.R (Kd.int .i64) 3 w' w.heap.size (fun _ => True) v0 (filI U.length p) ∧ Below w.heap.size w w' := by
  have hu70 := Try.underlying70
  have HF := Aside0.mk hf
  have HNM := Aside0.mk hname
  have HBD := Aside0.mk hb
  have HV := Aside0.mk hV
  have HST := Aside0.mk step
  have HB := Aside0.mk (Below.refl w.heap.size w)
  have hf0 := hV.f0
  clear hf hname hb hV step
  go_enter Try.func91, Try.ntmps91
  go_wp2_with (first | ((with_reducible refine gate_dst (N := 7) rfl ?_); refine Kd.R_lit (Kd.int .i64) _ 3 ?hg (N := 7) ?hd (xs := ([] : List Int)) (inner := []) (ok := fun _ => True) (okp := fun _ => True) ?hr ?hp (fun _ hk => hk) trivial (Below.refl _ _) (Nat.le_refl _) (by simp) ?_; (case hd => rfl); (case hg => rfl); (case hr => first | (go_simp; done) | (go_simp; rfl)); (case hp => exact (Reps.none _ _)); intro v496 w4 ho5 hb hg_ hnew_; clear hg_ hnew_; have HO := Aside0.mk ho5; have HB2 := Aside0.mk (below_step HB.out hb); have hf0' := (HV.out.below hb).f0; clear HB hf0 ho5 hb))
  go_loopg [5, 13] (U.length + 1) (fun kq v5 v13 W => ∃ i : Nat, v13 = .int .i64 i ∧ Aside0 (i + kq = U.length + 1) ∧ Aside0 (i ≤ U.length) ∧ Aside0 (Kd.R (Kd.int .i64) 3 W w.heap.size (fun _ => True) v5 (filI i p)) ∧ Aside0 (Below w.heap.size w W))
  case atStart => exact ⟨0, rfl, ⟨by omega⟩, ⟨by omega⟩, ⟨by (with_reducible repeat (first | apply Kd.R_alloc | apply Kd.R_drewN | apply Kd.R_drew)); exact HO.out⟩, ⟨by repeat (first | exact HB2.out | apply below_alloc | apply pw_below_drewN | apply below_drew1)⟩⟩
  case round =>
    clear hf0'
    obtain ⟨i, rfl, HK, HK2, HO1, HB1⟩ := hrel
    cases gk with
    | zero => exact absurd HK.out (by have := HK2.out; omega)
    | succ kn =>
    by_cases hlt : i < U.length
    · have hlt' : decide (i < U.length) = true := decide_eq_true hlt
      have HLT := Aside0.mk hlt
      clear hlt
      cases hp : p i with
      | true =>
        have HP := Aside0.mk hp
        clear hp
        go_wp2_with (first | (refine goesV_ (some 18) rfl rfl HF.out HNM.out HBD.out #[.int .i64 i] rfl rfl zr64 ?_; refine (HST.out i HLT.out _ ?sJ).mono ?_; (case sJ => exact zr49); rintro e w1 ⟨he, hj⟩; rw [HP.out] at he; subst he; refine ⟨_, rfl, ?_⟩; have HB3 := Aside0.mk (below_step zr49 hj); have HO3 := Aside0.mk (Kd.R_below zr62 hj); clear hj) | ((with_reducible refine gate_builtin (b := .append) (xs := #[.tmp 19, .tmp 21]) rfl ?_); at_builtin; refine Kd.R_append (Kd.int .i64) (w0 := w) w.heap.size rfl (.tmp 19) (.tmp 21) 28 3 (.int .i64 0) 8 rfl Try.underlying28 infoInt rfl (by decide) (by omega) u5 (filI i p) (i : Int) [.int .i64 i] (fun _ => True) (fun _ => False) rfl rfl ?aP (fun _ hk => hk.elim) ?aF ?aO ?aB ?aS ?aL ?_; (case aP => exact rfl); (case aB => exact zr58); (case aF => exact (fun _ _ => trivial)); (case aO => exact (by (with_reducible repeat (first | apply Kd.R_alloc | apply Kd.R_drewN | apply Kd.R_drew)); exact HO3.out)); (case aS => exact (below_size zr58)); (case aL => have := filI_length i p; have := HLT.out; omega); intro v5n w21 ho hb hg hat; have HB4 := Aside0.mk hb; have HO4 := Aside0.mk ho; clear ho hb hg hat))
        go_roundg kn
        case measure => omega
        case rel => exact ⟨i + 1, by first | go_num | (rw [wrap_small (by omega) (by have := HLT.out; omega)]; go_num), ⟨by have := HK.out; omega⟩, ⟨by have := HLT.out; omega⟩, ⟨by rw [filI_succ, if_pos HP.out]; (with_reducible repeat (first | apply Kd.R_alloc | apply Kd.R_drewN | apply Kd.R_drew)); exact HO4.out⟩, ⟨by repeat (first | exact HB4.out | apply below_alloc | apply pw_below_drewN | apply below_drew1)⟩⟩
      | false =>
        have HP := Aside0.mk hp
        clear hp
        go_wp2_with (refine goesV_ (some 18) rfl rfl HF.out HNM.out HBD.out #[.int .i64 i] rfl rfl zr64 ?_; refine (HST.out i HLT.out _ ?sJ).mono ?_; (case sJ => exact zr49); rintro e w1 ⟨he, hj⟩; rw [HP.out] at he; subst he; refine ⟨_, rfl, ?_⟩; have HB3 := Aside0.mk (below_step zr49 hj); have HO3 := Aside0.mk (Kd.R_below zr62 hj); clear hj)
        go_roundg kn
        case measure => omega
        case rel => exact ⟨i + 1, by first | go_num | (rw [wrap_small (by omega) (by have := HLT.out; omega)]; go_num), ⟨by have := HK.out; omega⟩, ⟨by have := HLT.out; omega⟩, ⟨by rw [filI_succ, if_neg (by rw [HP.out]; simp)]; (with_reducible repeat (first | apply Kd.R_alloc | apply Kd.R_drewN | apply Kd.R_drew)); exact HO3.out⟩, ⟨zr58⟩⟩
    · have hlt' : decide (i < U.length) = false := decide_eq_false hlt
      obtain rfl : i = U.length := by have := HK2.out; omega
      clear hlt
      go_wp2_with fail
      go_ret
      exact ⟨_, rfl, by (with_reducible repeat (first | apply Kd.R_alloc | apply Kd.R_drewN | apply Kd.R_drew)); exact HO1.out, by repeat (first | exact HB1.out | apply below_alloc | apply pw_below_drewN | apply below_drew1)⟩
theorem ofInt_nat (a : Nat) (ha : a < 18446744073709551616) : (BitVec.ofInt 64 (a : Int)).toNat = a := by
  rw [BitVec.ofInt_natCast, BitVec.toNat_ofNat]; exact Nat.mod_eq_of_lt (by omega)
theorem band_nat (a b : Nat) (ha : a < 4611686018427387904) (hb : b < 4611686018427387904) : Go.bits .and .i64 (a : Int) (b : Int) = ((a &&& b : Nat) : Int) := by
  have hx:a &&& b<2 ^ 62:=Nat.and_lt_two_pow _ (by omega)
  show IntKind.i64.wrap ((BitVec.ofInt 64 (a:Int) &&& BitVec.ofInt 64 (b:Int)).toNat:Int)=_
  rw [BitVec.toNat_and,ofInt_nat a (by omega),ofInt_nat b (by omega),i64_w]
  unfold wrap64;omega
theorem bor_nat (a b : Nat) (ha : a < 4611686018427387904) (hb : b < 4611686018427387904) : Go.bits .or .i64 (a : Int) (b : Int) = ((a ||| b : Nat) : Int) := by
  have hx:a|||b<2 ^ 62:=Nat.or_lt_two_pow (by omega) (by omega)
  show IntKind.i64.wrap ((BitVec.ofInt 64 (a:Int)|||BitVec.ofInt 64 (b:Int)).toNat:Int)=_
  rw [BitVec.toNat_or,ofInt_nat a (by omega),ofInt_nat b (by omega),i64_w]
  unfold wrap64;omega
theorem two_pow_le {i : Nat} (h : i ≤ 40) : (2 : Nat) ^ i ≤ 1099511627776 := Nat.pow_le_pow_right (by omega) h
theorem cast_pow (i : Nat) : (2 : Int) ^ i = ((2 ^ i : Nat) : Int) := by rw [Int.natCast_pow]; rfl
theorem shl_nat {i : Nat} (h : i ≤ 40) : shl .i64 1 (i : Int) = ((2 ^ i : Nat) : Int) := by
  unfold shl
  have h2 := two_pow_le h
  rw [Int.toNat_natCast, Nat.min_eq_left (by show i ≤ 64; omega), Int.one_mul, cast_pow, i64_w]
  generalize 2 ^ i = x at h2 ⊢
  unfold wrap64; omega
theorem wshl_nat {i : Nat} (h : i ≤ 40) : IntKind.i64.wrap (2 ^ i) = ((2 ^ i : Nat) : Int) := by
  have := shl_nat h
  unfold shl at this
  rwa [Int.toNat_natCast, Nat.min_eq_left (by show i ≤ 64; omega), Int.one_mul] at this
theorem shr_nat (s : Nat) {i : Nat} (h : i ≤ 64) : shr .i64 (s : Int) (i : Int) = ((s / 2 ^ i : Nat) : Int) := by
  unfold shr
  rw [Int.toNat_natCast, Nat.min_eq_left (by show i ≤ 64; omega), cast_pow]
  rfl
theorem testBit_div (s i : Nat) : s.testBit i = decide (s / 2 ^ i % 2 = 1) := Nat.testBit_eq_decide_div_mod_eq
def setB (n : Nat) (p : Nat → Bool) : Nat :=
  match n with
  | 0 => 0
  | n + 1 => setB n p ||| (if p n = true then 2 ^ n else 0)
theorem setB_bit (n : Nat) (p : Nat → Bool) (i : Nat) : (setB n p).testBit i = (decide (i < n) && p i) := by
  induction n with
  |zero=>simp [setB]
  | succ n ih =>
    simp only [setB,Nat.testBit_or,ih]
    by_cases e:i=n
    · subst e
      cases h:p i <;> simp [h,Nat.testBit_two_pow]
    · have : (if p n = true then 2 ^ n else 0).testBit i = false := by
        split
        · rw [Nat.testBit_two_pow];simp;omega
        · simp
      rw [this,Bool.or_false]
      congr 1
      rw [Bool.eq_iff_iff];simp;omega
theorem setB_lt (n : Nat) (p : Nat → Bool) : setB n p < 2 ^ n := by
  refine Nat.lt_pow_two_of_testBit _ fun i hi => ?_
  rw [setB_bit]; simp; omega
theorem setB_small {n : Nat} (h : n ≤ 40) (p : Nat → Bool) : setB n p < 1099511627776 := by have := setB_lt n p; have := two_pow_le h; omega
theorem setB_congr {n : Nat} {p q : Nat → Bool} (h : ∀ i, i < n → p i = q i) : setB n p = setB n q := by
  refine Nat.eq_of_testBit_eq fun i => ?_
  rw [setB_bit, setB_bit]
  by_cases hi : i < n
  · rw [h i hi]
  · simp [hi]
theorem setB_or (n : Nat) (p q : Nat → Bool) : setB n p ||| setB n q = setB n fun i => p i || q i := by
  refine Nat.eq_of_testBit_eq fun i => ?_
  rw [Nat.testBit_or, setB_bit, setB_bit, setB_bit]
  cases decide (i < n) <;> simp
theorem setB_one {n k : Nat} (h : k < n) : 2 ^ k = setB n fun i => i == k := by
  refine Nat.eq_of_testBit_eq fun i => ?_
  rw [setB_bit, Nat.testBit_two_pow]
  rw [Bool.eq_iff_iff]; simp; omega
theorem setB_none (n : Nat) : setB n (fun _ => false) = 0 := by
  refine Nat.eq_of_testBit_eq fun i => ?_
  rw [setB_bit]; simp
end Go.Proofs.Ytdoomkcgdcfmlaa.Print
end
section
namespace Go.Proofs.Ytdoomkcgdcfmlaa.Print
open Go.RowKit Go.Proofs.YtdoomkcgdcfmlaaW.PrintWords Go.Proofs.YtdoomkcgdcfmlaaW.PrintLast Go.Proofs.YtdoomkcgdcfmlaaW.PrintMore
def impl_has.f (a0 : Int) (a1 : Int) : Option (Bool) := if 0 ≤ a1 then (some ((Go.bits .and .i64 (shr .i64 a0 a1) 1) == 1)) else (none)
set_option maxHeartbeats 8000000 in
set_option maxRecDepth 100000 in
theorem impl_has.calls (a0 : Int) (a1 : Int) (r : Bool) (w : World) (h : impl_has.f a0 a1 = some r) :
  Calls Try.prog 99 #[.int .i64 a0, .int .i64 a1] w fun e w' => e = .returned (.bool r) ∧ Drawn0 w w' := by
 have H : (if 0 ≤ a1 then (some ((Go.bits .and .i64 (shr .i64 a0 a1) 1) == 1)) else (none)) = some r := h
 clear h
 by_cases c3 : 0 ≤ a1
 ·rw [if_pos c3] at H
  have c3b0 := eq_true c3
  have c3b1 : decide (0 ≤ a1) = true := decide_eq_true c3
  clear c3
  obtain ⟨ji4, hji4⟩ : ∃ j_ : Int, (shr .i64 a0 a1) = j_ := ⟨_, rfl⟩
  replace H : (some ((Go.bits .and .i64 (ji4) 1) == 1)) = some r := by first | (rw [hji4] at H; exact H) | (simp only [hji4] at H ⊢; exact H)
  have hji4_ : (a0 / 2 ^ min a1.toNat 64) = ji4 := hji4
  have hji4z : a1 ≤ 64 → (a0 / 2 ^ a1.toNat) = ji4 := shr_small hji4
  obtain rfl := Option.some.inj H
  go_enter Try.func99, Try.ntmps99
  go_wp2
  go_ret
  exact ⟨by first | rfl | (simp; done) | (simp only [← hji4] <;> (first | rfl | simp)) | (simp [*]; done), by repeat (first | exact Drawn0.refl _ | apply Drawn0.step)⟩
 ·rw [if_neg c3] at H
  exact absurd H (by simp)
end Go.Proofs.Ytdoomkcgdcfmlaa.Print
end
section
namespace Go.Proofs.Ytdoomkcgdcfmlaa.Print
open Go.RowKit Go.Proofs.YtdoomkcgdcfmlaaW.PrintWords Go.Proofs.YtdoomkcgdcfmlaaW.PrintLast Go.Proofs.YtdoomkcgdcfmlaaW.PrintMore
open Oml
theorem has_nat (s : Nat) (hs : s < 4611686018427387904) {i : Nat} (h : i ≤ 64) : impl_has.f (s : Int) (i : Int) = some (s.testBit i) := by
  unfold impl_has.f
  rw [if_pos (by omega),shr_nat s h,show (1:Int)=((1:Nat):Int) from rfl,band_nat _ _ (Nat.lt_of_le_of_lt (Nat.div_le_self _ _) hs) (by omega),Nat.and_one_is_mod,testBit_div]
  have h2:s / 2 ^ i % 2=0∨s / 2 ^ i % 2=1:=by omega
  rcases h2 with h2|h2 <;> rw [h2] <;> rfl
theorem has_in (s : Nat) (hs : s < 4611686018427387904) {i : Int} (h0 : 0 ≤ i) (h : i ≤ 64) : impl_has.f (s : Int) i = some (s.testBit i.toNat) := by
  obtain ⟨x, rfl⟩ : ∃ x : Nat, i = x := ⟨i.toNat, by omega⟩
  rw [Int.toNat_natCast]
  exact has_nat s hs (by omega)
theorem alg_project.reads (g : Nat) (U : List (List Int)) (N : List Int) (v : Adr) (a : Int) (b : Int) (w : World) (L : Logic U N) (hV : View w g U N v) (ia : In U a) (ib : In U b) :
    Calls Try.prog 79 #[.pointer (some ⟨g,0,none⟩),.int .i64 a,.int .i64 b] w fun e w'=>e= .returned (.int .i64 (andI U a (orI U (notI N a) b)))∧Drawn0 w w':=by
  have hu70:=Try.underlying70
  have HV:=Aside0.mk hV
  have HLg:=Aside0.mk L
  have Ia:=Aside0.mk ia
  have Ib:=Aside0.mk ib
  clear hV L ia ib
  have b0_:=eq_true Ia.out.1;have c0_:=eq_true Ia.out.2
  have hf3_:=HV.out.f3
  have n2_:=HV.out.n a Ia.out
  have IN1_:=Aside0.mk (HLg.out.in_not Ia.out)
  have b3_:=eq_true IN1_.out.1;have c3_:=eq_true IN1_.out.2
  have b4_:=eq_true Ib.out.1;have c4_:=eq_true Ib.out.2
  have hf2_:=HV.out.f2
  have r6_:=HV.out.j (notI N a) IN1_.out
  have s7_:=HV.out.j2 (notI N a) b IN1_.out Ib.out
  have IN2_:=Aside0.mk (HLg.out.in_or IN1_.out Ib.out)
  have b8_:=eq_true IN2_.out.1;have c8_:=eq_true IN2_.out.2
  have hf1_:=HV.out.f1
  have r10_:=HV.out.m a Ia.out
  have s11_:=HV.out.m2 a (orI U (notI N a) b) Ia.out IN2_.out
  go_enter Try.func79,Try.ntmps79
  go_wp2_with fail
  go_quiet (fail)
  go_wp2
  go_ret
  exact⟨rfl,⟨⟨_,rfl⟩⟩⟩
def projI (U : List (List Int)) (N : List Int) (a b : Int) : Int := andI U a (orI U (notI N a) b)
def upP (U : List (List Int)) (N : List Int) (a : Int) (i k : Nat) : Bool := (List.range i).any fun b => projI U N a b == (k : Int)
theorem upP_succ (U : List (List Int)) (N : List Int) (a : Int) (i k : Nat) : upP U N a (i + 1) k = (upP U N a i k || projI U N a i == (k : Int)) := by simp [upP, List.range_succ]
theorem up_step {U : List (List Int)} {N : List Int} {a : Int} {i q : Nat} (hn : U.length ≤ 12) (hq : q < U.length) (h : projI U N a i = (q : Int)) :
    Go.bits .or .i64 ((setB U.length (upP U N a i):Nat):Int) (wrap64 (2 ^ min q 64))=((setB U.length (upP U N a (i+1)):Nat):Int):=by
  have h1:=setB_small (show U.length≤40 by omega) (upP U N a i)
  have h2:=two_pow_le (show q≤40 by omega)
  rw [Nat.min_eq_left (show q≤64 by omega),← i64_w,wshl_nat (by omega),bor_nat _ _ (by omega) (by omega),setB_one hq,setB_or]
  congr 1
  refine setB_congr fun k hk=>?_
  rw [upP_succ,h]
  congr 1
  rw [Bool.eq_iff_iff];simp;omega
theorem up_c1 (s : Nat) (hs : s < 4611686018427387904) (gU : Nat) (b : Int) (h0 : 0 ≤ b) (h1 : b ≤ 64) (w : World) (hU : w.heap[gU]? = some (.cells #[.int .i64 (s : Int)] 3 (0, 0))) :
    Calls Try.prog 98 #[.int .i64 b,.pointer (some ⟨gU,0,none⟩)] w fun e w'=>e= .returned (.bool (s.testBit b.toNat))∧Below w.heap.size w w':=by
  have HH:=Aside0.mk (has_in s hs h0 h1)
  have x0:w.cell? ⟨gU,0,none⟩=some (.int .i64 (s:Int)):=(blk_cell hU 0).trans rfl
  clear hU hs h0 h1
  go_enter Try.func98,Try.ntmps98
  go_wp2_with (go_at_call 99;(with_reducible refine(impl_has.calls _ _ _ _ HH.out).mono ?_);rintro e w' ⟨rfl,⟨nd,rfl⟩⟩)
  go_ret
  exact⟨rfl,by repeat(first|exact Below.refl _ _|apply pw_below_drewN|apply below_drew1)⟩
def impl_UpToOf.T8 : Bool × List (List Nat × List Nat) := (true, [([], []), ([], []), ([], []), ([], []), ([1, 2, 3], [1, 2, 3]), ([4], [4]), ([0, 5], [0, 5]), ([6, 4, 0, 1, 2, 3, 4, 5, 6], [6])])
def impl_UpToOf.B8 : List Nat := [0, 0, 0, 0, 14, 30, 63, 127]
theorem impl_UpToOf.tab8 : rtab .any (opsOf Try.f51 8) = impl_UpToOf.T8 := by kernel_rfl
theorem impl_UpToOf.bits8 : waitsOk impl_UpToOf.T8.2 impl_UpToOf.B8 = true := by kernel_rfl
def impl_UpToOf.f (l0_0 : List (List Int)) (l0_1 : List Int) (a1 : Int) : Option (List Int) := some (if logicB l0_0 l0_1 = true then (if [a1].all (inR l0_0.length) = true then filI l0_0.length (fun b => upP l0_0 l0_1 a1 l0_0.length b) else []) else [])
set_option maxHeartbeats 4000000 in
set_option maxRecDepth 100000 in
theorem impl_UpToOf.calls (A0_0 : Option Addr) (c0_0 : Nat) (l0_0 : List (List Int)) (A0_1 : Option Addr) (c0_1 : Nat) (l0_1 : List Int) (a1 : Int) (r : List Int) (w : World) (hr0_0 : Kd.C (Kd.slice 3 (Kd.int .i64)) w A0_0 l0_0.length l0_0) (hc0_0 : l0_0.length ≤ c0_0) (hr0_1 : Kd.C (Kd.int .i64) w A0_1 l0_1.length l0_1) (hc0_1 : l0_1.length ≤ c0_1) (h : impl_UpToOf.f l0_0 l0_1 a1 = some r) :
    Calls Try.prog 51 #[.agg #[.slice A0_0 l0_0.length c0_0,.slice A0_1 l0_1.length c0_1],.int .i64 a1] w fun e w'=> ∃v0_:Value,e= .returned (v0_)∧Kd.R (Kd.int .i64) 3 w' w.heap.size (fun _=>True) v0_ r∧Below w.heap.size w w':=by
  obtain⟨k,hF⟩:=told_facts l0_0
  have hu30:=Try.underlying30
  have hu70:=Try.underlying70
  have HF:=Aside0.mk hF
  have HR0:=Aside0.mk hr0_0
  have HC0:=Aside0.mk hc0_0
  have HR1:=Aside0.mk hr0_1
  have HC1:=Aside0.mk hc0_1
  simp only [impl_UpToOf.f,Option.some.injEq] at h
  clear hr0_0 hc0_0 hr0_1 hc0_1 hF
  cases hL:logicB l0_0 l0_1 with
  | false =>
    rw [hL] at h
    have hr_: []=r:=by simpa using h
    subst hr_
    have HLB:=Aside0.mk hL
    clear h hL
    go_enter Try.func51,Try.ntmps51
    go_wp2_with (first|((with_reducible refine gate_dst (N:=2) rfl ?_);refine box_event ?hg (N:=2) ?hd (cs:= #[.slice A0_0 l0_0.length c0_0,.slice A0_1 l0_1.length c0_1]) (t:=30) ?hr ?_;(case hd=>rfl);(case hg=>rfl);(case hr=>first|(go_simp;done)|(go_simp;rfl));intro gb hg_ w1 hbox hb;have HB:=Aside0.mk hb;have hx0:w1.cell? ⟨gb,0,none⟩=some (.slice A0_0 l0_0.length c0_0):=(blk_cell hbox 0).trans rfl;have hx1:w1.cell? ⟨gb,1,none⟩=some (.slice A0_1 l0_1.length c0_1):=(blk_cell hbox 1).trans rfl;have HX:=Aside0.mk hbox;clear hbox hb hg_)|(go_at_call 77;(with_reducible refine(told_n k _ _ l0_0 _ _ l0_1 _ ?s1 ?s2 ?s3 ?s4 HF.out HLB.out).mono ?_);(case s1=>exact Kd.C_below HR0.out HB.out);(case s2=>exact HC0.out);(case s3=>exact Kd.C_below HR1.out HB.out);(case s4=>exact HC1.out);rintro e w2 ⟨rfl,hb⟩;have HB2:=Aside0.mk (below_step HB.out hb);clear hb hx0 hx1 HX HB)|(go_at_call 78;(with_reducible refine(knows_nil _ _ _ _).mono ?_);rintro e w3 ⟨rfl,hb⟩;have HB3:=Aside0.mk (below_step (by repeat(first|exact HB2.out|apply below_alloc|apply pw_below_drewN|apply below_drew1)) hb);clear hb))
    go_ret
    exact⟨_,rfl,Kd.R_nil _ _ _ _ _,HB3.out⟩
  | true =>
    have HLB:=Aside0.mk hL
    have HLg:=Aside0.mk (logicB_iff.1 hL)
    have HSM:=Aside0.mk (logicB_iff.1 hL).small
    cases hin: [a1].all (inR l0_0.length) with
    | false =>
      rw [hL,hin] at h
      have hr_: []=r:=by simpa using h
      subst hr_
      have HIN:=Aside0.mk hin
      clear h hL hin
      go_enter Try.func51,Try.ntmps51
      go_wp2_with (first|((with_reducible refine gate_dst (N:=2) rfl ?_);refine box_event ?hg (N:=2) ?hd (cs:= #[.slice A0_0 l0_0.length c0_0,.slice A0_1 l0_1.length c0_1]) (t:=30) ?hr ?_;(case hd=>rfl);(case hg=>rfl);(case hr=>first|(go_simp;done)|(go_simp;rfl));intro gb hg_ w1 hbox hb;have HB:=Aside0.mk hb;have hx0:w1.cell? ⟨gb,0,none⟩=some (.slice A0_0 l0_0.length c0_0):=(blk_cell hbox 0).trans rfl;have hx1:w1.cell? ⟨gb,1,none⟩=some (.slice A0_1 l0_1.length c0_1):=(blk_cell hbox 1).trans rfl;have HX:=Aside0.mk hbox;clear hbox hb hg_)|(go_at_call 77;(with_reducible refine(told_y k _ _ l0_0 _ _ l0_1 _ ?s1 ?s2 ?s3 ?s4 HF.out HLB.out).mono ?_);(case s1=>exact Kd.C_below HR0.out HB.out);(case s2=>exact HC0.out);(case s3=>exact Kd.C_below HR1.out HB.out);(case s4=>exact HC1.out);rintro e w2 ⟨g,v,rfl,hv,hge,hb⟩;have HB2:=Aside0.mk (below_step HB.out hb);have HV:=Aside0.mk hv;clear hv hge hb hx0 hx1 HX HB)|(go_at_call 78;(with_reducible refine(knows_calls g l0_0 l0_1 v _ HLg.out ?s1 _ _ [a1] 1 rfl ?s2 (by omega) false HIN.out).mono ?_);(case s1=>exact View.alloc HV.out _);(case s2=>exact lit_C _ _ [a1] (by simp));rintro e w3 ⟨rfl,hb⟩;have HB3:=Aside0.mk (below_step (below_alloc HB2.out _) hb);have HV3:=Aside0.mk (View.below (View.alloc HV.out _) hb);clear hb))
      go_ret
      exact⟨_,rfl,Kd.R_nil _ _ _ _ _,HB3.out⟩
    | true =>
      rw [hL,hin] at h
      have hr_:filI l0_0.length (fun b=>upP l0_0 l0_1 a1 l0_0.length b)=r:=by simpa using h
      subst hr_
      have HIN:=Aside0.mk hin
      have hin2:=hin
      simp only [List.all_cons,List.all_nil,Bool.and_true,Bool.and_eq_true,inR_iff] at hin2
      have Ia1:=Aside0.mk (hin2)
      clear h hL hin hin2
      go_enter Try.func51,Try.ntmps51
      go_wp2_with (first|((with_reducible refine gate_dst (N:=2) rfl ?_);refine box_event ?hg (N:=2) ?hd (cs:= #[.slice A0_0 l0_0.length c0_0,.slice A0_1 l0_1.length c0_1]) (t:=30) ?hr ?_;(case hd=>rfl);(case hg=>rfl);(case hr=>first|(go_simp;done)|(go_simp;rfl));intro gb hg_ w1 hbox hb;have HB:=Aside0.mk hb;have hx0:w1.cell? ⟨gb,0,none⟩=some (.slice A0_0 l0_0.length c0_0):=(blk_cell hbox 0).trans rfl;have hx1:w1.cell? ⟨gb,1,none⟩=some (.slice A0_1 l0_1.length c0_1):=(blk_cell hbox 1).trans rfl;have HX:=Aside0.mk hbox;clear hbox hb hg_)|(go_at_call 77;(with_reducible refine(told_y k _ _ l0_0 _ _ l0_1 _ ?s1 ?s2 ?s3 ?s4 HF.out HLB.out).mono ?_);(case s1=>exact Kd.C_below HR0.out HB.out);(case s2=>exact HC0.out);(case s3=>exact Kd.C_below HR1.out HB.out);(case s4=>exact HC1.out);rintro e w2 ⟨g,v,rfl,hv,hge,hb⟩;have HB2:=Aside0.mk (below_step HB.out hb);have HV:=Aside0.mk hv;clear hv hge hb hx0 hx1 HX HB)|(go_at_call 78;(with_reducible refine(knows_calls g l0_0 l0_1 v _ HLg.out ?s1 _ _ [a1] 1 rfl ?s2 (by omega) true HIN.out).mono ?_);(case s1=>exact View.alloc HV.out _);(case s2=>exact lit_C _ _ [a1] (by simp));rintro e w3 ⟨rfl,hb⟩;have HB3:=Aside0.mk (below_step (below_alloc HB2.out _) hb);have HV3:=Aside0.mk (View.below (View.alloc HV.out _) hb);clear hb;have hf0:=(View.alloc HV3.out (.cells #[.int .i64 0] 3)).f0))
      have HH:=Aside0.mk (show (w3.alloc (.cells #[.int .i64 0] 3)).heap[w3.heap.size]? =some (.cells #[.int .i64 ((setB l0_0.length (upP l0_0 l0_1 a1 0):Nat):Int)] 3 (0,0)) by rw [show setB l0_0.length (upP l0_0 l0_1 a1 0)=0 from setB_none _];exact(MapKept.heap_alloc w3 _).1)
      go_loopg [20] (l0_0.length+1) (fun kq v20 W=> ∃(i:Nat),v20= .int .i64 i∧Aside0 (i+kq=l0_0.length+1)∧Aside0 (i≤l0_0.length)∧Aside0 (W.heap[w3.heap.size]? =some (.cells #[.int .i64 ((setB l0_0.length (upP l0_0 l0_1 a1 i):Nat):Int)] 3 (0,0)))∧Aside0 (Below w3.heap.size w3 W))
      case atStart=>exact⟨0,rfl,⟨by omega⟩,⟨by omega⟩,HH,⟨below_alloc (Below.refl _ _) _⟩⟩
      case round =>
        clear hf0
        obtain⟨i,rfl,HK,HK2,HHr,HBr⟩:=hrel
        have hf0:=(HV3.out.below HBr.out).f0
        cases gk with
        |zero=>exact absurd HK.out (by have:=HK2.out;omega)
        |succ kn=>
        by_cases hlt:i<l0_0.length
        · have hlt' : decide (i < l0_0.length) = true := decide_eq_true hlt
          have HLT:=Aside0.mk hlt
          have hin_:In l0_0 (projI l0_0 l0_1 a1 (i:Int)):=HLg.out.in_and Ia1.out (HLg.out.in_or (HLg.out.in_not Ia1.out) ⟨by omega,by omega⟩)
          obtain⟨q,hq⟩: ∃q:Nat,projI l0_0 l0_1 a1 (i:Int)=(q:Int):=⟨(projI l0_0 l0_1 a1 (i:Int)).toNat,by have:=hin_.1;omega⟩
          have hql:q<l0_0.length:=by have:=hin_.2;omega
          obtain⟨sv,hsv⟩: ∃sv:Int,sv=((setB l0_0.length (upP l0_0 l0_1 a1 i):Nat):Int):=⟨_,rfl⟩
          obtain⟨tv,htv⟩: ∃tv:Int,tv=((setB l0_0.length (upP l0_0 l0_1 a1 (i+1)):Nat):Int):=⟨_,rfl⟩
          obtain⟨pv,hpv⟩: ∃pv:Int,wrap64 (2 ^ min q 64)=pv:=⟨_,rfl⟩
          have e2_:Go.bits .or .i64 sv pv=tv:=by rw [hsv,htv,← hpv];exact up_step HSM.out hql hq
          have e1_:=hpv
          have b1_:((q:Int)≤64)=True:=eq_true (by have:=HSM.out;omega)
          have HQ:=Aside0.mk hq
          have HTV:=Aside0.mk htv
          rw [← hsv] at HHr
          clear hlt hin_ hq hql hsv htv hpv
          go_wp2_with fail
          refine start_ (n:=8) (S:=(fun w'=>w'.cell? ⟨w3.heap.size,0,none⟩=some (.int .i64 sv))) (ds:= [7]) (zqb 8 0) (by kernel_rfl) rfl rfl ((blk_cell (blk_drew HHr.out) 0).trans rfl) (fun hHeld=>?_)
          refine with_tabW impl_UpToOf.tab8 impl_UpToOf.bits8 (fun HT_ HW_=>?_)
          generalize hwd:wr.drew=wd at hHeld ⊢
          have HBd:=Aside0.mk (show Below w3.heap.size w3 wd from hwd ▸ below_drew1 HBr.out)
          replace HHr:=Aside0.mk (hwd ▸ blk_drew HHr.out)
          clear hwd HBr
          refine take_ (i:=0) (N:=some 23) (v:=?_) (a':=?_) (zqb 8 1) rfl rfl (take_ofW HT_.out HW_.out (by kernel_rfl)) (fun _ _ _ h=>h) (Or.inl ⟨by rfl,?_⟩) hHeld ?_ ?_
          rotate_left
          · intro w' s0;go_simp;with_reducible rfl
          rotate_left
          · simp only [Act.put,List.setIfInBounds_toArray,List.set_cons_zero,List.set_cons_succ,i64_w,i32_w];rfl
          refine pure_ (i:=1) (N:=some 24) (v:=?_) (a':=?_) (zqb 8 3) rfl rfl (any_of HT_.out (by kernel_rfl)) (fun _ _ _ h=>h) (Or.inl ⟨by rfl,?_⟩) ?_ ?_
          rotate_left
          · intro w';go_simp;with_reducible rfl
          rotate_left
          · simp only [Act.put,List.setIfInBounds_toArray,List.set_cons_zero,List.set_cons_succ,i64_w,i32_w];rfl
          refine pure_ (i:=2) (N:=some 25) (v:=?_) (a':=?_) (zqb 8 7) rfl rfl (any_of HT_.out (by kernel_rfl)) (fun _ _ _ h=>h) (Or.inl ⟨by rfl,?_⟩) ?_ ?_
          rotate_left
          · intro w';go_simp;with_reducible rfl
          rotate_left
          · simp only [Act.put,List.setIfInBounds_toArray,List.set_cons_zero,List.set_cons_succ,i64_w,i32_w];rfl
          refine pure_ (i:=3) (N:=some 26) (v:=?_) (a':=?_) (zqb 8 15) rfl rfl (any_of HT_.out (by kernel_rfl)) (fun _ _ _ h=>h) (Or.inl ⟨by rfl,?_⟩) ?_ ?_
          rotate_left
          · intro w';go_simp;with_reducible rfl
          rotate_left
          · simp only [Act.put,List.setIfInBounds_toArray,List.set_cons_zero,List.set_cons_succ,i64_w,i32_w];rfl
          refine one_ (i:=4) (N:=some 27) (zqb 8 31) rfl rfl (one_of HT_.out (by kernel_rfl)) (by decide) (fun K hK=>?_)
          refine goes_ Try.func79 (by kernel_rfl) rfl #[.pointer (some ⟨g,0,none⟩),.int .i64 a1,.int .i64 i] (by rfl) rfl rfl (by(try simp only [List.map_toArray,List.map_cons,List.map_nil]);first|done|rfl) ?_
          refine(alg_project.reads g l0_0 l0_1 v a1 (i:Int) wd HLg.out (HV3.out.below HBd.out) Ia1.out ⟨by omega,by have:=HLT.out;omega⟩).mono ?_
          rintro e w4 ⟨rfl,⟨⟨nd,rfl⟩⟩⟩
          have hq':andI l0_0 a1 (orI l0_0 (notI l0_1 a1) (i:Int))=(q:Int):=HQ.out
          rw [hq']
          refine⟨_,rfl,?_⟩
          have HH4:=Aside0.mk (show (wd.drewN nd).heap[w3.heap.size]? =some (.cells #[.int .i64 sv] 3 (0,0)) from HHr.out)
          have HB4:=Aside0.mk (pw_below_drewN HBd.out nd)
          refine hK.out _ _ ((blk_cell HH4.out 0).trans rfl) (fun hHeld4=>?_)
          clear hK K HHr HBd hq'
          (try simp only [Act.put,List.setIfInBounds_toArray,List.set_cons_zero,List.set_cons_succ])
          refine pure_ (i:=5) (N:=some 28) (v:=?_) (a':=?_) (zqb 8 63) rfl rfl (any_of HT_.out (by kernel_rfl)) (fun _ _ _ h=>h) (Or.inl ⟨by rfl,?_⟩) ?_ ?_
          rotate_left
          · intro w';go_simp;with_reducible rfl
          rotate_left
          · simp only [Act.put,List.setIfInBounds_toArray,List.set_cons_zero,List.set_cons_succ,i64_w,i32_w];rfl
          refine pure_ (i:=6) (N:=some 29) (v:=?_) (a':=?_) (zqb 8 127) rfl rfl (any_of HT_.out (by kernel_rfl)) (fun _ _ _ h=>h) (Or.inl ⟨by rfl,?_⟩) ?_ ?_
          rotate_left
          · intro w';go_simp;with_reducible rfl
          rotate_left
          · simp only [Act.put,List.setIfInBounds_toArray,List.set_cons_zero,List.set_cons_succ,i64_w,i32_w];rfl
          have hs_:(wd.drewN nd).cell? ⟨w3.heap.size,0,none⟩=some (.int .i64 sv):=(blk_cell HH4.out 0).trans rfl
          have hf_:=blk_frozen HH4.out 0
          refine last_ (i:=7) (N:=none) (zqb 8 255) rfl rfl (one_of HT_.out (by kernel_rfl)) (by decide) (fun K hK=>?_)
          refine skip_ (w1:=(wd.drewN nd).setCell ⟨w3.heap.size,0,none⟩ (.int .i64 tv)) (by rfl) rfl ?_ ?_
          · go_simp
          refine hK.out _ _ ?_
          clear hK K
          have HH7:=Aside0.mk (one_setCell (u:= .int .i64 tv) HH4.out)
          have HB7:=Aside0.mk (below_set (j:=0) (v:= .int .i64 tv) HB4.out (Nat.le_refl _))
          generalize (wd.drewN nd).setCell ⟨w3.heap.size,0,none⟩ (.int .i64 tv)=w7 at HH7 HB7 ⊢
          clear hs_ hf_ HH4 HB4 e1_ e2_
          refine done_ (done_of HT_.out (by kernel_rfl)) ?_
          go_wp2
          go_roundg kn
          case measure=>omega
          case rel=>exact⟨i+1,by first|go_num|(rw [wrap_small (by omega) (by have:=HLT.out;have:=HSM.out;omega)];go_num),⟨by have:=HK.out;omega⟩,⟨by have:=HLT.out;omega⟩,⟨by rw [← HTV.out];exact HH7.out⟩,HB7⟩
        · have hlt' : decide (i < l0_0.length) = false := decide_eq_false hlt
          obtain rfl:i=l0_0.length:=by have:=HK2.out;omega
          clear hlt
          have HS:=Aside0.mk (show setB l0_0.length (upP l0_0 l0_1 a1 l0_0.length)<4611686018427387904 by have:=setB_small (show l0_0.length≤40 by have:=HSM.out;omega) (upP l0_0 l0_1 a1 l0_0.length);omega)
          have HST := Aside0.mk (show ∀ b : Nat, b < l0_0.length → ∀ W, Below wr.heap.size wr W → Calls Try.prog 98 (#[.int .i64 (b : Int)] ++ #[.pointer (some ⟨w3.heap.size, 0, none⟩)]) W fun e w'' => e = .returned (.bool (upP l0_0 l0_1 a1 l0_0.length b)) ∧ Below W.heap.size W w'' from fun b hb W hW => by
            have h1:=up_c1 (setB l0_0.length (upP l0_0 l0_1 a1 l0_0.length)) HS.out w3.heap.size (b:Int) (by omega) (by have:=HSM.out;omega) W (blk_below HHr.out hW)
            rw [Int.toNat_natCast,setB_bit,decide_eq_true hb,Bool.true_and] at h1
            exact h1)
          go_wp2_with (go_at_call 91;(with_reducible refine(all_calls g l0_0 l0_1 v wr HSM.out (HV3.out.below HBr.out) 98 _ #[.pointer (some ⟨w3.heap.size,0,none⟩)] Try.func98 (by kernel_rfl) rfl (fun b=>upP l0_0 l0_1 a1 l0_0.length b) HST.out).mono ?_);rintro e w8 ⟨vo,rfl,ho,hb⟩;have HO8:=Aside0.mk (Kd.R_lower ho (below_size (below_step HB3.out HBr.out)));have HB8:=Aside0.mk (below_step (below_step HB3.out HBr.out) hb);clear ho hb)
          go_ret
          exact⟨_,rfl,HO8.out,by repeat(first|exact HB8.out|apply pw_below_drewN|apply below_drew1)⟩
end Go.Proofs.Ytdoomkcgdcfmlaa.Print
end
section
namespace Go.Proofs.Ytdoomkcgdcfmlaa.Print
open Go.RowKit Go.Proofs.YtdoomkcgdcfmlaaW.PrintWords Go.Proofs.YtdoomkcgdcfmlaaW.PrintLast Go.Proofs.YtdoomkcgdcfmlaaW.PrintMore
def laws_FnUpToOf.l0 : Nat → Int → List Int → Int → List (List Int) → List Int → Option (Bool)
 | 0, _, _, _, _, _ => none
 | k + 1, x4, x5, x6, x924000, x924001 => if x6 < (x924001.length : Int) then ((laws_hasInt.f k x5 x6).bind fun t933 => (if t933 = true then (if 0 ≤ x6 then (if x6 < (x924000.length : Int) then (if 0 ≤ x4 then (if x4 < ((rd_L3 x924000 x6).length : Int) then (if (rd (rd_L3 x924000 x6) x4) = 0 then (some false) else ((spec_KeepsOk.f k x924000 x924001).bind fun t936 => (if t936 = true then ((laws_hasInt.f k x5 x6).bind fun t937 => (if (t937 != ((rd (rd_L3 x924000 x6) x4) == 1)) = true then (some false) else (laws_FnUpToOf.l0 k x4 x5 (wrap64 (x6 + 1)) x924000 x924001))) else (laws_FnUpToOf.l0 k x4 x5 (wrap64 (x6 + 1)) x924000 x924001)))) else (none)) else (none)) else (none)) else (none)) else ((spec_KeepsOk.f k x924000 x924001).bind fun t940 => (if t940 = true then ((laws_hasInt.f k x5 x6).bind fun t941 => (if 0 ≤ x6 then (if x6 < (x924000.length : Int) then (if 0 ≤ x4 then (if x4 < ((rd_L3 x924000 x6).length : Int) then (if (t941 != ((rd (rd_L3 x924000 x6) x4) == 1)) = true then (some false) else (laws_FnUpToOf.l0 k x4 x5 (wrap64 (x6 + 1)) x924000 x924001)) else (none)) else (none)) else (none)) else (none))) else (laws_FnUpToOf.l0 k x4 x5 (wrap64 (x6 + 1)) x924000 x924001))))) else ((laws_ascend.f k x5).bind fun t932 => (some t932))
def laws_FnUpToOf.f (k : Nat) (l0 : List Int) : Option (Bool) := if (l0.length : Int) > 1048576 then (some true) else ((spec_DrawUpToOf.f k l0).bind fun bt916 => ((impl_UpToOf.f bt916.1 bt916.2.1 bt916.2.2).bind fun t924 => ((spec_UpToOf.f k bt916.1 bt916.2.1 bt916.2.2).bind fun t927 => ((laws_sameInts.f k t924 t927).bind fun t930 => (if t930 = true then (if (t924.length : Int) = 0 then ((laws_alive.f k).bind fun t931 => (some t931)) else (laws_FnUpToOf.l0 k bt916.2.2 t924 0 bt916.1 bt916.2.1)) else (some false))))))
def laws_FnUpToOf.T12 : Bool × List (List Nat × List Nat) := (true, [([], []), ([], []), ([0, 1], [0, 1]), ([2, 2], [2]), ([3], [3]), ([4, 3], [3, 4]), ([3], [3]), ([5, 6, 3], [3, 5, 6]), ([7, 3], [3, 7]), ([3], [3]), ([8, 9, 3], [3, 8, 9]), ([10, 3], [3, 10]), ([11, 3], [3, 11]), ([3, 12], [3, 12]), ([13, 3], [13]), ([14], [14]), ([15, 14, 14], [14, 15]), ([16, 16, 14], [14, 16]), ([17], [17]), ([17], [17]), ([18, 19, 17, 17], [17, 18, 19]), ([17], [17]), ([21, 17], [17, 21]), ([17], [17]), ([22, 23, 17], [17, 22, 23]), ([24, 17], [17, 24]), ([17], [17]), ([25, 26, 17], [17, 25, 26]), ([27, 17], [17, 27]), ([28, 17], [17, 28]), ([20, 29, 17], [17, 20, 29]), ([17, 30, 14], [14, 17, 30]), ([14, 31], [14, 31])])
def laws_FnUpToOf.B12 : List Nat := [0, 0, 3, 7, 15, 31, 15, 127, 255, 15, 1023, 2047, 4095, 8191, 16383, 32767, 65535, 131071, 262143, 262143, 1048575, 262143, 2359295, 262143, 14942207, 31719423, 262143, 132382719, 266600447, 535035903, 1073741823, 2147483647, 4294967295]
theorem laws_FnUpToOf.tab12 : rtab .any (opsOf Try.f10 12) = laws_FnUpToOf.T12 := by kernel_rfl
theorem laws_FnUpToOf.bits12 : waitsOk laws_FnUpToOf.T12.2 laws_FnUpToOf.B12 = true := by kernel_rfl
set_option maxHeartbeats 8000000 in
set_option maxRecDepth 100000 in
theorem laws_FnUpToOf.calls (k : Nat) (A0 : Option Addr) (c0 : Nat) (l0 : List Int) (r : Bool) (w : World) (hr0 : Kd.C (Kd.int .u8) w A0 l0.length l0) (hc0 : l0.length ≤ c0) (h : laws_FnUpToOf.f k l0 = some r) :
  Calls Try.prog 10 #[.slice A0 l0.length c0] w fun e w' => e = .returned (.bool r) ∧ Below w.heap.size w w' := by
 have hu30:=Try.underlying30;have p5:=zqm hr0;have p6:=zqm hc0;clear hr0 hc0;have HB:=zqm (Below.refl w.heap.size w);have H:(if(l0.length:Int)>1048576 then(some true) else((spec_DrawUpToOf.f k l0).bind fun g1=>((impl_UpToOf.f g1.1 g1.2.1 g1.2.2).bind fun a6=>((spec_UpToOf.f k g1.1 g1.2.1 g1.2.2).bind fun e2=>((laws_sameInts.f k a6 e2).bind fun g9=>(if g9=true then(if(a6.length:Int)=0 then((laws_alive.f k).bind fun e7=>(some e7)) else(laws_FnUpToOf.l0 k g1.2.2 a6 0 g1.1 g1.2.1)) else(some false)))))))=some r:=h;clear h
 by_cases c2:(l0.length:Int)>1048576
 ·rw [if_pos c2] at H;have p7:decide (1048576<(l0.length:Int))=true:=decide_eq_true c2;have p8:decide (1048576<l0.length)=true:=decide_eq_true (by omega);clear c2;obtain rfl:=Option.some.inj H
  go_enter Try.func10,Try.ntmps10
  go_wp2
  go_ret
  exact⟨zr12,zr0⟩
 ·rw [if_neg c2] at H;have p7:decide (1048576<(l0.length:Int))=false:=decide_eq_false c2;have p8:decide (1048576<l0.length)=false:=decide_eq_false (by omega);clear c2;replace H:=Option.bind_eq_some_iff.mp H;obtain⟨⟨a1,a4,a3⟩,t2,H⟩:=H;replace H:((impl_UpToOf.f a1 a4 a3).bind fun a6=>((spec_UpToOf.f k a1 a4 a3).bind fun e2=>((laws_sameInts.f k a6 e2).bind fun g9=>(if g9=true then(if(a6.length:Int)=0 then((laws_alive.f k).bind fun e7=>(some e7)) else(laws_FnUpToOf.l0 k a3 a6 0 a1 a4)) else(some false)))))=some r:=H;have A3:=zqm t2;clear t2;replace H:=Option.bind_eq_some_iff.mp H;obtain⟨a6,t3,H⟩:=H;replace H:((spec_UpToOf.f k a1 a4 a3).bind fun e2=>((laws_sameInts.f k a6 e2).bind fun g9=>(if g9=true then(if(a6.length:Int)=0 then((laws_alive.f k).bind fun e7=>(some e7)) else(laws_FnUpToOf.l0 k a3 a6 0 a1 a4)) else(some false))))=some r:=H;have A4:=zqm t3;clear t3;replace H:=Option.bind_eq_some_iff.mp H;obtain⟨e2,t4,H⟩:=H;replace H:((laws_sameInts.f k a6 e2).bind fun g9=>(if g9=true then(if(a6.length:Int)=0 then((laws_alive.f k).bind fun e7=>(some e7)) else(laws_FnUpToOf.l0 k a3 a6 0 a1 a4)) else(some false)))=some r:=H;have A5:=zqm t4;clear t4;replace H:=Option.bind_eq_some_iff.mp H;obtain⟨g9,t5,H⟩:=H;replace H:(if g9=true then(if(a6.length:Int)=0 then((laws_alive.f k).bind fun e7=>(some e7)) else(laws_FnUpToOf.l0 k a3 a6 0 a1 a4)) else(some false))=some r:=H;have A6:=zqm t5;clear t5
  by_cases c7:g9=true
  ·subst c7;(have H1:(if(a6.length:Int)=0 then((laws_alive.f k).bind fun e7=>(some e7)) else(laws_FnUpToOf.l0 k a3 a6 0 a1 a4))=some r:=by rw [if_pos rfl] at H;exact H);clear H;have H:=H1;clear H1
   by_cases c8:(a6.length:Int)=0
   ·rw [if_pos c8] at H;have p9:((a6.length:Int)==0)=true:=beq_iff_eq.mpr c8;have q0:((a6.length:Int) !=0)=false:=bne_eq_false_iff_eq.mpr c8;clear c8;replace H:=Option.bind_eq_some_iff.mp H;obtain⟨e7,t6,H⟩:=H;replace H:(some e7)=some r:=H;have A9:=zqm t6;clear t6;obtain rfl:=Option.some.inj H
    go_enter Try.func10,Try.ntmps10
    go_wp2_with (first|((with_reducible refine gate_callee (f:=50) rfl ?_);refine goesL_ (some 12) rfl rfl Try.func50 zqk rfl #[.slice A0 l0.length c0] rfl zr2 ?_;(with_reducible refine(spec_DrawUpToOf.calls k _ _ l0 a1 a4 a3 _ ?side1 ?side2 A3.out).mono ?_);(case side1=> exact zr46);(case side2=>exact p6.out);rintro e w10 ⟨q1,q2,rfl,b6,j7,hb⟩;refine⟨_,rfl,?_⟩;have a8:=zqm (Kd.S_lower b6 (below_size zr0));have a7:=zqm (Kd.Q_lower j7 (below_size zr0));replace HB:=zqm (below_step zr0 hb);clear hb b6 j7)|((with_reducible refine gate_dst (N:=3) rfl ?_);refine box_event ?hg (N:=3) ?hd (cs:= #[.slice none 0 0,.slice none 0 0]) (t:=30) ?hr ?_;(case hd=>rfl);(case hg=>rfl);(case hr=>first|(go_simp;done)|(go_simp;rfl));intro a5 hg t7 hbox hb;replace a8:=zqm (Kd.S_below zr31 hb);replace a7:=zqm (Kd.Q_below zr24 hb);have f5:=zqm (below_step zr0 hb);have a0:=zqm (hbox);have m2:=zqm ((by rw [hg];exact(below_size zr0):w.heap.size≤a5));have b4:=zqm ((by rw [hg];exact(below_size zr0):w.heap.size≤a5));clear HB;have HB:=f5;clear f5 hb hbox hg;obtain⟨f7,e8,u5⟩:=Kd.S_slice a8.out;subst u5;have n4:t7.cell? ⟨a5,0,none⟩=some (.slice none 0 0):=(blk_cell a0.out 0).trans rfl;have n5:t7.cell? ⟨a5,1,none⟩=some (.slice none 0 0):=(blk_cell a0.out 1).trans rfl;have n6:=blk_frozen a0.out 0;have n7:=blk_frozen a0.out 1;obtain⟨f8,e9,u6,_⟩:=Kd.Q_slice a7.out;subst u6)|((with_reducible refine gate_callee (f:=51) rfl ?_);refine goesL_ (some 17) rfl rfl Try.func51 zqk rfl #[.agg #[.slice f7 a1.length e8,.slice f8 a4.length e9],.int .i64 a3] rfl zr2 ?_;(with_reducible refine(impl_UpToOf.calls _ _ a1 _ _ a4 a3 a6 _ ?side1 ?side2 ?side3 ?side4 A4.out).mono ?_);(case side1=>refine(Kd.S_reads' (e:=28) (base:=w.heap.size) (ok:=fun k_=>some k_≠(.slice f8 a4.length e9:Value).ownBlock) (n:=a1.length) (c:=e8) ?_).2.2;exact zr35);(case side2=>exact(Kd.S_reads' a8.out).2.1);(case side3=>refine(Kd.Q_reads' (e:=3) (base:=w.heap.size) (ok:=fun k_=>True) (n:=a4.length) (c:=e9) ?_).2.2;exact zr27);(case side4=>exact(Kd.Q_reads' a7.out).2.1);rintro e t8 ⟨q3,rfl,b6,hb⟩;refine⟨_,rfl,?_⟩;replace a8:=zqm (Kd.S_elder' zr35 (Kd.R_base b6) hb);have f6:=zqm (Kd.Q_elder' zr27 (Kd.R_base b6) hb);have b5:=zqm (Kd.R_lower (Kd.R_new' b6 (Kd.Q_lt zr27)) (below_size zr3));replace a0:=zqm (blk_below (g:=a5) (o:= .cells #[.slice f7 a1.length e8,.slice f8 a4.length e9] 30 (0,0)) (by(with_reducible repeat(first|refine blk_drewN ?_ _|refine blk_drew ?_|refine blk_alloc ?_ _));refine blk_put (cs:= #[.slice f7 a1.length e8,.slice none 0 0]) ?_ 1 _ rfl;(with_reducible repeat(first|refine blk_drewN ?_ _|refine blk_drew ?_|refine blk_alloc ?_ _));refine blk_put (cs:= #[.slice none 0 0,.slice none 0 0]) ?_ 0 _ rfl;(with_reducible repeat(first|refine blk_drewN ?_ _|refine blk_drew ?_|refine blk_alloc ?_ _));exact a0.out) hb);replace HB:=zqm (below_step zr3 hb);clear a7;have a7:=f6;clear f6 hb b6;have n8:t8.cell? ⟨a5,0,none⟩=some (.slice f7 a1.length e8):=(blk_cell a0.out 0).trans rfl;have n9:t8.cell? ⟨a5,1,none⟩=some (.slice f8 a4.length e9):=(blk_cell a0.out 1).trans rfl;have o0:=blk_frozen a0.out 0;have o1:=blk_frozen a0.out 1)|((with_reducible refine gate_callee (f:=53) rfl ?_);refine goesL_ (some 21) rfl rfl Try.func53 zqk rfl #[.agg #[.slice f7 a1.length e8,.slice f8 a4.length e9],.int .i64 a3] rfl zr2 ?_;(with_reducible refine(spec_UpToOf.calls k _ _ a1 _ _ a4 a3 e2 _ ?side1 ?side2 ?side3 ?side4 A5.out).mono ?_);(case side1=> exact zr40);(case side2=>exact(Kd.S_reads' a8.out).2.1);(case side3=> exact zr42);(case side4=>exact(Kd.Q_reads' a7.out).2.1);rintro e w17 ⟨q4,rfl,b6,hb⟩;refine⟨_,rfl,?_⟩;replace a8:=zqm (Kd.S_elder' zr31 (Kd.R_base b6) hb);have f6:=zqm (Kd.Q_elder' zr24 (Kd.R_base b6) hb);have f5:=zqm (Kd.R_elder' zr32 (Kd.R_base b6) hb);have e1:=zqm (Kd.R_lower (Kd.R_new' (Kd.R_new' b6 (Kd.Q_lt zr24)) (Kd.R_lt zr32)) (below_size zr3));replace a0:=zqm (blk_below (g:=a5) (o:= .cells #[.slice f7 a1.length e8,.slice f8 a4.length e9] 30 (0,0)) zr1 hb);replace HB:=zqm (below_step zr3 hb);clear a7 b5;have a7:=f6;have b5:=f5;clear f6 f5 hb b6;obtain⟨u7,u9,v0⟩:=Kd.R_slice b5.out;subst v0;obtain⟨v1,v2,v3⟩:=Kd.R_slice e1.out;subst v3)|((with_reducible refine gate_callee (f:=52) rfl ?_);refine goesL_ (some 22) rfl rfl Try.func52 zqk rfl #[.slice u7 a6.length u9,.slice v1 e2.length v2] rfl zr2 ?_;(with_reducible refine(laws_sameInts.calls k _ _ a6 _ _ e2 true _ ?side1 ?side2 ?side3 ?side4 A6.out).mono ?_);(case side1=> exact zr41);(case side2=>exact(Kd.R_reads' b5.out).2.1);(case side3=> exact zr39);(case side4=>exact(Kd.R_reads' e1.out).2.1);rintro e w' ⟨rfl,⟨nd,rfl⟩⟩;refine⟨_,rfl,?_⟩)|((with_reducible refine gate_callee (f:=18) rfl ?_);refine goesL_ (some 27) rfl rfl Try.func18 zqk rfl #[] rfl zr2 ?_;(with_reducible refine(laws_alive.calls k e7 _ A9.out).mono ?_);rintro e w20 ⟨rfl,hb⟩;refine⟨_,rfl,?_⟩;replace a8:=zqm (Kd.S_below zr31 hb);replace a7:=zqm (Kd.Q_below zr24 hb);replace b5:=zqm (Kd.R_below zr32 hb);replace e1:=zqm (Kd.R_below zr63 hb);replace a0:=zqm (blk_below (g:=a5) (o:= .cells #[.slice f7 a1.length e8,.slice f8 a4.length e9] 30 (0,0)) zr1 hb);replace HB:=zqm (below_step zr3 hb);clear hb))
    go_ret
    exact⟨zr12,zr3⟩
   ·rw [if_neg c8] at H;have p9:((a6.length:Int)==0)=false:=beq_eq_false_iff_ne.mpr c8;have q0:((a6.length:Int) !=0)=true:=bne_iff_ne.mpr c8;have v4: ¬(a6= []):=fun h_=>c8 (by rw [h_];rfl);have H':=zqm H;clear H
    go_enter Try.func10,Try.ntmps10
    go_wp2_with (first|((with_reducible refine gate_callee (f:=50) rfl ?_);refine goesL_ (some 12) rfl rfl Try.func50 zqk rfl #[.slice A0 l0.length c0] rfl zr2 ?_;(with_reducible refine(spec_DrawUpToOf.calls k _ _ l0 a1 a4 a3 _ ?side1 ?side2 A3.out).mono ?_);(case side1=> exact zr46);(case side2=>exact p6.out);rintro e w21 ⟨q1,q2,rfl,b6,j7,hb⟩;refine⟨_,rfl,?_⟩;have a8:=zqm (Kd.S_lower b6 (below_size zr0));have a7:=zqm (Kd.Q_lower j7 (below_size zr0));replace HB:=zqm (below_step zr0 hb);clear hb b6 j7)|((with_reducible refine gate_dst (N:=3) rfl ?_);refine box_event ?hg (N:=3) ?hd (cs:= #[.slice none 0 0,.slice none 0 0]) (t:=30) ?hr ?_;(case hd=>rfl);(case hg=>rfl);(case hr=>first|(go_simp;done)|(go_simp;rfl));intro a5 hg t9 hbox hb;replace a8:=zqm (Kd.S_below zr31 hb);replace a7:=zqm (Kd.Q_below zr24 hb);have f5:=zqm (below_step zr0 hb);have a0:=zqm (hbox);have m2:=zqm ((by rw [hg];exact(below_size zr0):w.heap.size≤a5));have b4:=zqm ((by rw [hg];exact(below_size zr0):w.heap.size≤a5));clear HB;have HB:=f5;clear f5 hb hbox hg;obtain⟨c6,b2,v5⟩:=Kd.S_slice a8.out;subst v5;have o2:t9.cell? ⟨a5,0,none⟩=some (.slice none 0 0):=(blk_cell a0.out 0).trans rfl;have o3:t9.cell? ⟨a5,1,none⟩=some (.slice none 0 0):=(blk_cell a0.out 1).trans rfl;have o4:=blk_frozen a0.out 0;have o5:=blk_frozen a0.out 1;obtain⟨b1,a9,v7,_⟩:=Kd.Q_slice a7.out;subst v7)|((with_reducible refine gate_callee (f:=51) rfl ?_);refine goesL_ (some 17) rfl rfl Try.func51 zqk rfl #[.agg #[.slice c6 a1.length b2,.slice b1 a4.length a9],.int .i64 a3] rfl zr2 ?_;(with_reducible refine(impl_UpToOf.calls _ _ a1 _ _ a4 a3 a6 _ ?side1 ?side2 ?side3 ?side4 A4.out).mono ?_);(case side1=>refine(Kd.S_reads' (e:=28) (base:=w.heap.size) (ok:=fun k_=>some k_≠(.slice b1 a4.length a9:Value).ownBlock) (n:=a1.length) (c:=b2) ?_).2.2;exact zr33);(case side2=>exact(Kd.S_reads' a8.out).2.1);(case side3=>refine(Kd.Q_reads' (e:=3) (base:=w.heap.size) (ok:=fun k_=>True) (n:=a4.length) (c:=a9) ?_).2.2;exact zr26);(case side4=>exact(Kd.Q_reads' a7.out).2.1);rintro e u0 ⟨q3,rfl,b6,hb⟩;refine⟨_,rfl,?_⟩;replace a8:=zqm (Kd.S_elder' zr33 (Kd.R_base b6) hb);have f6:=zqm (Kd.Q_elder' zr26 (Kd.R_base b6) hb);have b5:=zqm (Kd.R_lower (Kd.R_new' b6 (Kd.Q_lt zr26)) (below_size zr3));replace a0:=zqm (blk_below (g:=a5) (o:= .cells #[.slice c6 a1.length b2,.slice b1 a4.length a9] 30 (0,0)) (by(with_reducible repeat(first|refine blk_drewN ?_ _|refine blk_drew ?_|refine blk_alloc ?_ _));refine blk_put (cs:= #[.slice c6 a1.length b2,.slice none 0 0]) ?_ 1 _ rfl;(with_reducible repeat(first|refine blk_drewN ?_ _|refine blk_drew ?_|refine blk_alloc ?_ _));refine blk_put (cs:= #[.slice none 0 0,.slice none 0 0]) ?_ 0 _ rfl;(with_reducible repeat(first|refine blk_drewN ?_ _|refine blk_drew ?_|refine blk_alloc ?_ _));exact a0.out) hb);replace HB:=zqm (below_step zr3 hb);clear a7;have a7:=f6;clear f6 hb b6;have o6:u0.cell? ⟨a5,0,none⟩=some (.slice c6 a1.length b2):=(blk_cell a0.out 0).trans rfl;have o7:u0.cell? ⟨a5,1,none⟩=some (.slice b1 a4.length a9):=(blk_cell a0.out 1).trans rfl;have o8:=blk_frozen a0.out 0;have o9:=blk_frozen a0.out 1)|((with_reducible refine gate_callee (f:=53) rfl ?_);refine goesL_ (some 21) rfl rfl Try.func53 zqk rfl #[.agg #[.slice c6 a1.length b2,.slice b1 a4.length a9],.int .i64 a3] rfl zr2 ?_;(with_reducible refine(spec_UpToOf.calls k _ _ a1 _ _ a4 a3 e2 _ ?side1 ?side2 ?side3 ?side4 A5.out).mono ?_);(case side1=> exact zr40);(case side2=>exact(Kd.S_reads' a8.out).2.1);(case side3=> exact zr42);(case side4=>exact(Kd.Q_reads' a7.out).2.1);rintro e w28 ⟨q4,rfl,b6,hb⟩;refine⟨_,rfl,?_⟩;replace a8:=zqm (Kd.S_elder' zr31 (Kd.R_base b6) hb);have f6:=zqm (Kd.Q_elder' zr24 (Kd.R_base b6) hb);have f5:=zqm (Kd.R_elder' zr32 (Kd.R_base b6) hb);have e1:=zqm (Kd.R_lower (Kd.R_new' (Kd.R_new' b6 (Kd.Q_lt zr24)) (Kd.R_lt zr32)) (below_size zr3));replace a0:=zqm (blk_below (g:=a5) (o:= .cells #[.slice c6 a1.length b2,.slice b1 a4.length a9] 30 (0,0)) zr1 hb);replace HB:=zqm (below_step zr3 hb);clear a7 b5;have a7:=f6;have b5:=f5;clear f6 f5 hb b6;obtain⟨e3,e4,v8⟩:=Kd.R_slice b5.out;subst v8;obtain⟨v9,w0,w1⟩:=Kd.R_slice e1.out;subst w1)|((with_reducible refine gate_callee (f:=52) rfl ?_);refine goesL_ (some 22) rfl rfl Try.func52 zqk rfl #[.slice e3 a6.length e4,.slice v9 e2.length w0] rfl zr2 ?_;(with_reducible refine(laws_sameInts.calls k _ _ a6 _ _ e2 true _ ?side1 ?side2 ?side3 ?side4 A6.out).mono ?_);(case side1=> exact zr41);(case side2=>exact(Kd.R_reads' b5.out).2.1);(case side3=> exact zr39);(case side4=>exact(Kd.R_reads' e1.out).2.1);rintro e w' ⟨rfl,⟨nd,rfl⟩⟩;refine⟨_,rfl,?_⟩))
    go_loopg [6] k (fun kq v6 w'=> ∃(a2:Int),v6= .int .i64 a2∧Aside0 (laws_FnUpToOf.l0 kq a3 a6 a2 a1 a4=some r)∧Aside0 (kq≤k)∧Aside0 (Kd.R (Kd.int .i64) 3 w' w.heap.size (fun k_=>some k_≠((.slice b1 a4.length a9):Value).ownBlock) (.slice e3 a6.length e4) a6)∧Aside0 (Kd.S (Kd.slice 3 (Kd.int .i64)) 28 w' w.heap.size (fun k_=>some k_≠((.slice e3 a6.length e4):Value).ownBlock∧some k_≠((.slice b1 a4.length a9):Value).ownBlock) (.slice c6 a1.length b2) a1)∧Aside0 (Kd.Q (Kd.int .i64) 3 w' w.heap.size (fun k_=>some k_≠((.slice e3 a6.length e4):Value).ownBlock) (.slice b1 a4.length a9) a4)∧Aside0 (w'.heap[a5]? =some (.cells #[(.slice c6 a1.length b2),(.slice b1 a4.length a9)] 30 (0,0)))∧Aside0 (Below w.heap.size w w'))
    case atStart=>exact⟨(0),(by first|rfl|(simp;done)|(simp [*];done)),H',⟨Nat.le_refl _⟩,⟨by(with_reducible repeat(first|apply Kd.R_alloc|apply Kd.R_drewN|apply Kd.R_drew));exact Kd.R_mono b5.out (fun _ hk=>hk.1.2)⟩,⟨by(with_reducible repeat(first|apply Kd.S_alloc|apply Kd.S_drewN|apply Kd.S_drew));exact Kd.S_mono a8.out (fun _ hk=>⟨hk.1.2,hk.1.1⟩)⟩,⟨by(with_reducible repeat(first|apply Kd.Q_alloc|apply Kd.Q_drewN|apply Kd.Q_drew));exact Kd.Q_mono a7.out (fun _ hk=>hk.1.2)⟩,⟨zr1⟩,⟨zr3⟩⟩
    case round=>
     clear H';(try clear c1);(try clear c2);(try clear p7);(try clear p8);(try clear p2);(try clear c5);(try clear c7);(try clear c8);(try clear p9);(try clear q0);(try clear v4);(try clear c10);(try clear c18);(try clear n4);(try clear n5);(try clear n8);(try clear n9);(try clear o2);(try clear o3);(try clear o6);(try clear o7);(try clear n6);(try clear n7);(try clear o0);(try clear o1);(try clear o4);(try clear o5);(try clear o8);(try clear o9);obtain⟨a2,rfl,HA,j8,HO_5,HO_924000,HO_924001,a0,HB⟩:=hrel
     cases gk with
     |zero=>exact absurd HA.out (by simp [laws_FnUpToOf.l0])
     |succ k1=>
      have H:=HA.out;clear HA;simp only [laws_FnUpToOf.l0] at H
      by_cases l1:a2<(a4.length:Int)
      ·rw [if_pos l1] at H;have r5:decide (a2<(a4.length:Int))=true:=decide_eq_true l1;clear l1;replace H:=Option.bind_eq_some_iff.mp H;obtain⟨q5,q6,H⟩:=H;replace H:(if q5=true then(if 0≤a2 then(if a2<(a1.length:Int) then(if 0≤a3 then(if a3<((rd_L3 a1 a2).length:Int) then(if(rd (rd_L3 a1 a2) a3)=0 then(some false) else((spec_KeepsOk.f k1 a1 a4).bind fun j1=>(if j1=true then((laws_hasInt.f k1 a6 a2).bind fun d6=>(if(d6 !=((rd (rd_L3 a1 a2) a3)==1))=true then(some false) else(laws_FnUpToOf.l0 k1 a3 a6 (wrap64 (a2+1)) a1 a4))) else(laws_FnUpToOf.l0 k1 a3 a6 (wrap64 (a2+1)) a1 a4)))) else(none)) else(none)) else(none)) else(none)) else((spec_KeepsOk.f k1 a1 a4).bind fun j2=>(if j2=true then((laws_hasInt.f k1 a6 a2).bind fun d7=>(if 0≤a2 then(if a2<(a1.length:Int) then(if 0≤a3 then(if a3<((rd_L3 a1 a2).length:Int) then(if(d7 !=((rd (rd_L3 a1 a2) a3)==1))=true then(some false) else(laws_FnUpToOf.l0 k1 a3 a6 (wrap64 (a2+1)) a1 a4)) else(none)) else(none)) else(none)) else(none))) else(laws_FnUpToOf.l0 k1 a3 a6 (wrap64 (a2+1)) a1 a4))))=some r:=H;have j9:=zqm q6;clear q6
       by_cases m3:q5=true
       ·subst m3;(have H1:(if 0≤a2 then(if a2<(a1.length:Int) then(if 0≤a3 then(if a3<((rd_L3 a1 a2).length:Int) then(if(rd (rd_L3 a1 a2) a3)=0 then(some false) else((spec_KeepsOk.f k1 a1 a4).bind fun j1=>(if j1=true then((laws_hasInt.f k1 a6 a2).bind fun d6=>(if(d6 !=((rd (rd_L3 a1 a2) a3)==1))=true then(some false) else(laws_FnUpToOf.l0 k1 a3 a6 (wrap64 (a2+1)) a1 a4))) else(laws_FnUpToOf.l0 k1 a3 a6 (wrap64 (a2+1)) a1 a4)))) else(none)) else(none)) else(none)) else(none))=some r:=by rw [if_pos rfl] at H;exact H);clear H;have H:=H1;clear H1
        by_cases m4:0≤a2
        ·rw [if_pos m4] at H;have a0l:decide (0≤a2)=true:=decide_eq_true m4;clear m4
         by_cases m5:a2<(a1.length:Int)
         ·rw [if_pos m5] at H;have a0m:decide (a2<(a1.length:Int))=true:=decide_eq_true m5;clear m5
          by_cases m6:0≤a3
          ·rw [if_pos m6] at H;have a0n:decide (0≤a3)=true:=decide_eq_true m6;clear m6
           by_cases m7:a3<((rd_L3 a1 a2).length:Int)
           ·rw [if_pos m7] at H;have a0o:decide (a3<((rd_L3 a1 a2).length:Int))=true:=decide_eq_true m7;clear m7
            by_cases k0:(rd (rd_L3 a1 a2) a3)=0
            ·rw [if_pos k0] at H;have r6:((rd (rd_L3 a1 a2) a3)==0)=true:=beq_iff_eq.mpr k0;have r7:((rd (rd_L3 a1 a2) a3) !=0)=false:=bne_eq_false_iff_eq.mpr k0;clear k0;obtain rfl:=Option.some.inj H;have x0:wr.cell? ⟨a5,0,none⟩=some (.slice c6 a1.length b2):=(blk_cell a0.out 0).trans rfl;have x1:wr.cell? ⟨a5,1,none⟩=some (.slice b1 a4.length a9):=(blk_cell a0.out 1).trans rfl;have x2:=blk_frozen a0.out 0;have x3:=blk_frozen a0.out 1;(try go_wp2);replace HO_5:=zqm (Kd.R_drew HO_5.out);replace HO_924000:=zqm (Kd.S_drew HO_924000.out);replace HO_924001:=zqm (Kd.Q_drew HO_924001.out);replace a0:=zqm (blk_drew a0.out);replace HB:=zqm (below_drew1 HB.out);have d8:0≤(a2:Int):=zqo;have d9:a2<(a1.length:Int):=zqo;obtain⟨c4,g3,g4,i5,b7,d0,d1⟩:=at_L3 (Kd.S_reads' HO_924000.out).2.2 a2 d8 d9
             cases i5
             obtain⟨l2,g5,g6,e0⟩:=Kd.S_get HO_924000.out [] a2 d8 zr57;obtain⟨j3,rfl,b8⟩:=g6;have b3:=e0 0 _ rfl;rw [Nat.add_zero,show ((Kd.slice 3 (Kd.int .i64))).sz=1 from rfl,Nat.mul_one] at b3;replace b3:=Option.some.inj (b3.symm.trans b7);rw [b3] at b8;have c9:=zqm (show Kd.R (Kd.int .i64) 3 _ _ _ _ (rd_L3 a1 a2) from b8);clear b3 b8 e0 g5;have b0:=zqm d1;have j4:=zqm d0;clear d1 d0;replace d8:=eq_true d8;replace d9:=eq_true d9;have e5:0≤(a3:Int):=zqo;have e6:a3<((rd_L3 a1 a2).length:Int):=zqo;obtain⟨h4,i6,f0⟩:=Kd.at_int zr14 a3 e5 e6;refine start_ (n:=33) (S:=fun w'=>w'.cell? ⟨a5,0,none⟩=some (.slice (some c4) a1.length b2)∧w'.cell? ⟨a5,1,none⟩=some (.slice b1 a4.length a9)∧w'.cell? (c4.add (a2).toNat)=some (.slice g3 (rd_L3 a1 a2).length g4)∧w'.cell? (h4.add (a3).toNat)=some (.int .i64 (rd (rd_L3 a1 a2) a3))) (ds:= []) (zqb 33 0) zqk rfl rfl ⟨(blk_cell a0.out 0).trans rfl,(blk_cell a0.out 1).trans rfl,b7,f0⟩ (fun hHeld=>?_);refine with_tabW laws_FnUpToOf.tab12 laws_FnUpToOf.bits12 (fun HT_ HW_=>?_);generalize wr.drew=w40 at HO_5 HO_924000 HO_924001 a0 HB c9 b0 b7 hHeld ⊢;refine pure_ (i:=0) (N:=some 35) (v:=?_) (a':=?_) (zqb 33 1) rfl rfl (any_of HT_.out zqk) (fun _ _ _ h=>h) (Or.inl ⟨by rfl,?_⟩) ?_ ?_;rotate_left
             ·exact zqt
             rotate_left
             ·exact zqs
             refine pure_ (i:=1) (N:=some 36) (v:=?_) (a':=?_) (zqb 33 3) rfl rfl (any_of HT_.out zqk) (fun _ _ _ h=>h) (Or.inl ⟨by rfl,?_⟩) ?_ ?_;rotate_left
             ·exact zqt
             rotate_left
             ·exact zqs
             refine one_ (i:=2) (N:=some 37) (zqb 33 7) rfl rfl (one_of HT_.out zqk) (by decide) (fun K hK=>?_);refine goes_ Try.func48 zqk rfl #[.slice e3 a6.length e4,.int .i64 a2] (by rfl) rfl rfl zr2 ?_;(with_reducible refine(laws_hasInt.calls k1 _ _ a6 a2 true _ ?side1 ?side2 j9.out).mono ?_);(case side1=> exact zr8);(case side2=>exact(Kd.R_reads' HO_5.out).2.1);rintro e w' ⟨rfl,⟨nd,rfl⟩⟩;refine⟨_,rfl,?_⟩
             cases i6
             replace e5:=eq_true e5;replace e6:=eq_true e6;refine hK.out _ _ ⟨(blk_cell a0.out 0).trans rfl,(blk_cell a0.out 1).trans rfl,hHeld.2.2.1,hHeld.2.2.2⟩ (fun hHeld=>?_);clear hK K;refine norm_ (a':=?_) ?_ ?_;rotate_left
             ·show Act.put _ (some 37) _=_;exact zqs
             refine pure_ (i:=3) (N:=some 38) (v:=?_) (a':=?_) (zqb 33 15) rfl rfl (any_of HT_.out zqk) (fun _ _ _ h=>h) (Or.inl ⟨by rfl,?_⟩) ?_ ?_;rotate_left
             ·exact zqt
             rotate_left
             ·exact zqs
             refine pure_ (i:=4) (N:=some 39) (v:=?_) (a':=?_) (zqb 33 31) rfl rfl (any_of HT_.out zqk) (fun _ _ _ h=>h) (Or.inl ⟨by rfl,?_⟩) ?_ ?_;rotate_left
             ·exact zqt
             rotate_left
             ·exact zqs
             refine pure_ (i:=6) (N:=some 41) (v:=?_) (a':=?_) (zqb 33 95) rfl rfl (any_of HT_.out zqk) (fun _ _ _ h=>h) (Or.inl ⟨by rfl,?_⟩) ?_ ?_;rotate_left
             ·exact zqt
             rotate_left
             ·exact zqs
             refine pure_ (i:=9) (N:=some 44) (v:=?_) (a':=?_) (zqb 33 607) rfl rfl (any_of HT_.out zqk) (fun _ _ _ h=>h) (Or.inl ⟨by rfl,?_⟩) ?_ ?_;rotate_left
             ·exact zqt
             rotate_left
             ·exact zqs
             refine take_ (i:=5) (N:=some 40) (v:=?_) (a':=?_) (zqb 33 639) rfl rfl (take_ofW HT_.out HW_.out zqk) (fun _ _ _ h=>h) (Or.inl ⟨by rfl,?_⟩) hHeld ?_ ?_;rotate_left
             ·rintro w' ⟨s0,s1,s2,s3⟩;go_simp;with_reducible rfl
             rotate_left
             ·exact zqs
             refine pure_ (i:=7) (N:=some 42) (v:=?_) (a':=?_) (zqb 33 767) rfl rfl (any_of HT_.out zqk) (fun _ _ _ h=>h) (Or.inl ⟨by rfl,?_⟩) ?_ ?_;rotate_left
             ·exact zqt
             rotate_left
             ·exact zqs
             refine take_ (i:=8) (N:=some 43) (v:=?_) (a':=?_) (zqb 33 1023) rfl rfl (take_ofW HT_.out HW_.out zqk) (fun _ _ _ h=>h) (Or.inl ⟨by rfl,?_⟩) hHeld ?_ ?_;rotate_left
             ·rintro w' ⟨s0,s1,s2,s3⟩;go_simp;with_reducible rfl
             rotate_left
             ·exact zqs
             refine pure_ (i:=10) (N:=some 45) (v:=?_) (a':=?_) (zqb 33 2047) rfl rfl (any_of HT_.out zqk) (fun _ _ _ h=>h) (Or.inl ⟨by rfl,?_⟩) ?_ ?_;rotate_left
             ·exact zqt
             rotate_left
             ·exact zqs
             refine take_ (i:=11) (N:=some 46) (v:=?_) (a':=?_) (zqb 33 4095) rfl rfl (take_ofW HT_.out HW_.out zqk) (fun _ _ _ h=>h) (Or.inl ⟨by rfl,?_⟩) hHeld ?_ ?_;rotate_left
             ·rintro w' ⟨s0,s1,s2,s3⟩;go_simp;with_reducible rfl
             rotate_left
             ·exact zqs
             refine pure_ (i:=12) (N:=some 47) (v:=?_) (a':=?_) (zqb 33 8191) rfl rfl (any_of HT_.out zqk) (fun _ _ _ h=>h) (Or.inl ⟨by rfl,?_⟩) ?_ ?_;rotate_left
             ·exact zqt
             rotate_left
             ·exact zqs
             refine pure_ (i:=13) (N:=some 48) (v:=?_) (a':=?_) (zqb 33 16383) rfl rfl (any_of HT_.out zqk) (fun _ _ _ h=>h) (Or.inl ⟨by rfl,?_⟩) ?_ ?_;rotate_left
             ·exact zqt
             rotate_left
             ·exact zqs
             refine pure_ (i:=14) (N:=some 49) (v:=?_) (a':=?_) (zqb 33 32767) rfl rfl (any_of HT_.out zqk) (fun _ _ _ h=>h) (Or.inl ⟨by rfl,?_⟩) ?_ ?_;rotate_left
             ·exact zqt
             rotate_left
             ·exact zqs
             refine pure_ (i:=15) (N:=some 50) (v:=undef) (a':=?_) (zqb 33 65535) rfl rfl (any_of HT_.out zqk) (fun _ _ _ h=>h) (Or.inr ⟨by rfl,rfl⟩) ?_ ?_;rotate_left
             ·exact zqs
             refine pure_ (i:=16) (N:=some 51) (v:=undef) (a':=?_) (zqb 33 131071) rfl rfl (any_of HT_.out zqk) (fun _ _ _ h=>h) (Or.inr ⟨by rfl,rfl⟩) ?_ ?_;rotate_left
             ·exact zqs
             refine pure_ (i:=17) (N:=some 52) (v:=undef) (a':=?_) (zqb 33 262143) rfl rfl (any_of HT_.out zqk) (fun _ _ _ h=>h) (Or.inr ⟨by rfl,rfl⟩) ?_ ?_;rotate_left
             ·exact zqs
             refine pure_ (i:=18) (N:=some 53) (v:=undef) (a':=?_) (zqb 33 524287) rfl rfl (any_of HT_.out zqk) (fun _ _ _ h=>h) (Or.inr ⟨by rfl,rfl⟩) ?_ ?_;rotate_left
             ·exact zqs
             refine pure_ (i:=19) (N:=some 54) (v:=undef) (a':=?_) (zqb 33 1048575) rfl rfl (any_of HT_.out zqk) (fun _ _ _ h=>h) (Or.inr ⟨by rfl,rfl⟩) ?_ ?_;rotate_left
             ·exact zqs
             refine pure_ (i:=20) (N:=some 55) (v:=undef) (a':=?_) (zqb 33 2097151) rfl rfl (any_of HT_.out zqk) (fun _ _ _ h=>h) (Or.inr ⟨by rfl,rfl⟩) ?_ ?_;rotate_left
             ·exact zqs
             refine pure_ (i:=21) (N:=some 56) (v:=undef) (a':=?_) (zqb 33 4194303) rfl rfl (any_of HT_.out zqk) (fun _ _ _ h=>h) (Or.inr ⟨by rfl,rfl⟩) ?_ ?_;rotate_left
             ·exact zqs
             refine pure_ (i:=22) (N:=some 57) (v:=undef) (a':=?_) (zqb 33 8388607) rfl rfl (any_of HT_.out zqk) (fun _ _ _ h=>h) (Or.inr ⟨by rfl,rfl⟩) ?_ ?_;rotate_left
             ·exact zqs
             refine pure_ (i:=23) (N:=some 58) (v:=undef) (a':=?_) (zqb 33 16777215) rfl rfl (any_of HT_.out zqk) (fun _ _ _ h=>h) (Or.inr ⟨by rfl,rfl⟩) ?_ ?_;rotate_left
             ·exact zqs
             refine pure_ (i:=24) (N:=some 59) (v:=undef) (a':=?_) (zqb 33 33554431) rfl rfl (any_of HT_.out zqk) (fun _ _ _ h=>h) (Or.inr ⟨by rfl,rfl⟩) ?_ ?_;rotate_left
             ·exact zqs
             refine pure_ (i:=25) (N:=some 60) (v:=undef) (a':=?_) (zqb 33 67108863) rfl rfl (any_of HT_.out zqk) (fun _ _ _ h=>h) (Or.inr ⟨by rfl,rfl⟩) ?_ ?_;rotate_left
             ·exact zqs
             refine pure_ (i:=26) (N:=some 61) (v:=undef) (a':=?_) (zqb 33 134217727) rfl rfl (any_of HT_.out zqk) (fun _ _ _ h=>h) (Or.inr ⟨by rfl,rfl⟩) ?_ ?_;rotate_left
             ·exact zqs
             refine pure_ (i:=27) (N:=some 62) (v:=undef) (a':=?_) (zqb 33 268435455) rfl rfl (any_of HT_.out zqk) (fun _ _ _ h=>h) (Or.inr ⟨by rfl,rfl⟩) ?_ ?_;rotate_left
             ·exact zqs
             refine pure_ (i:=28) (N:=some 63) (v:=undef) (a':=?_) (zqb 33 536870911) rfl rfl (any_of HT_.out zqk) (fun _ _ _ h=>h) (Or.inr ⟨by rfl,rfl⟩) ?_ ?_;rotate_left
             ·exact zqs
             refine pure_ (i:=29) (N:=some 64) (v:=undef) (a':=?_) (zqb 33 1073741823) rfl rfl (any_of HT_.out zqk) (fun _ _ _ h=>h) (Or.inr ⟨by rfl,rfl⟩) ?_ ?_;rotate_left
             ·exact zqs
             refine pure_ (i:=30) (N:=some 65) (v:=undef) (a':=?_) (zqb 33 2147483647) rfl rfl (any_of HT_.out zqk) (fun _ _ _ h=>h) (Or.inr ⟨by rfl,rfl⟩) ?_ ?_;rotate_left
             ·exact zqs
             refine pure_ (i:=31) (N:=some 66) (v:=undef) (a':=?_) (zqb 33 4294967295) rfl rfl (any_of HT_.out zqk) (fun _ _ _ h=>h) (Or.inr ⟨by rfl,rfl⟩) ?_ ?_;rotate_left
             ·exact zqs
             refine pure_ (i:=32) (N:=some 67) (v:=?_) (a':=?_) (zqb 33 8589934591) rfl rfl (any_of HT_.out zqk) (fun _ _ _ h=>h) (Or.inl ⟨by rfl,?_⟩) ?_ ?_;rotate_left
             ·exact zqt
             rotate_left
             ·exact zqs
             refine done_ (done_of HT_.out zqk) ?_;try go_wp2
             go_ret
             exact⟨zr12,zr3⟩
            ·rw [if_neg k0] at H;have r6:((rd (rd_L3 a1 a2) a3)==0)=false:=beq_eq_false_iff_ne.mpr k0;have r7:((rd (rd_L3 a1 a2) a3) !=0)=true:=bne_iff_ne.mpr k0;replace H:=Option.bind_eq_some_iff.mp H;obtain⟨j1,q7,H⟩:=H;replace H:(if j1=true then((laws_hasInt.f k1 a6 a2).bind fun d6=>(if(d6 !=((rd (rd_L3 a1 a2) a3)==1))=true then(some false) else(laws_FnUpToOf.l0 k1 a3 a6 (wrap64 (a2+1)) a1 a4))) else(laws_FnUpToOf.l0 k1 a3 a6 (wrap64 (a2+1)) a1 a4))=some r:=H;have q8:=zqm q7;clear q7
             by_cases m8:j1=true
             ·subst m8;(have H1:((laws_hasInt.f k1 a6 a2).bind fun d6=>(if(d6 !=((rd (rd_L3 a1 a2) a3)==1))=true then(some false) else(laws_FnUpToOf.l0 k1 a3 a6 (wrap64 (a2+1)) a1 a4)))=some r:=by rw [if_pos rfl] at H;exact H);clear H;have H:=H1;clear H1;replace H:=Option.bind_eq_some_iff.mp H;obtain⟨d6,q9,H⟩:=H;replace H:(if(d6 !=((rd (rd_L3 a1 a2) a3)==1))=true then(some false) else(laws_FnUpToOf.l0 k1 a3 a6 (wrap64 (a2+1)) a1 a4))=some r:=H;have u1:=zqm q9;clear q9
              by_cases i1:(d6 !=((rd (rd_L3 a1 a2) a3)==1))=true
              ·rw [if_pos i1] at H;have r8:(d6 !=((rd (rd_L3 a1 a2) a3)==1))=true:=i1;(try(have r9:decide (d6=((rd (rd_L3 a1 a2) a3)==1))=false:=by simpa using i1));(try(have s6:(d6==((rd (rd_L3 a1 a2) a3)==1))=false:=by simpa using i1));(try(have a0p: ¬(d6=((rd (rd_L3 a1 a2) a3)==1)):=by simpa using i1));clear i1;obtain rfl:=Option.some.inj H;have x4:wr.cell? ⟨a5,0,none⟩=some (.slice c6 a1.length b2):=(blk_cell a0.out 0).trans rfl;have x5:wr.cell? ⟨a5,1,none⟩=some (.slice b1 a4.length a9):=(blk_cell a0.out 1).trans rfl;have x6:=blk_frozen a0.out 0;have x7:=blk_frozen a0.out 1;(try go_wp2);replace HO_5:=zqm (Kd.R_drew HO_5.out);replace HO_924000:=zqm (Kd.S_drew HO_924000.out);replace HO_924001:=zqm (Kd.Q_drew HO_924001.out);replace a0:=zqm (blk_drew a0.out);replace HB:=zqm (below_drew1 HB.out);have d8:0≤(a2:Int):=zqo;have d9:a2<(a1.length:Int):=zqo;obtain⟨c4,g3,g4,i5,b7,d0,d1⟩:=at_L3 (Kd.S_reads' HO_924000.out).2.2 a2 d8 d9
               cases i5
               obtain⟨l2,g5,g6,e0⟩:=Kd.S_get HO_924000.out [] a2 d8 zr57;obtain⟨j3,rfl,b8⟩:=g6;have b3:=e0 0 _ rfl;rw [Nat.add_zero,show ((Kd.slice 3 (Kd.int .i64))).sz=1 from rfl,Nat.mul_one] at b3;replace b3:=Option.some.inj (b3.symm.trans b7);rw [b3] at b8;have c9:=zqm (show Kd.R (Kd.int .i64) 3 _ _ _ _ (rd_L3 a1 a2) from b8);clear b3 b8 e0 g5;have b0:=zqm d1;have j4:=zqm d0;clear d1 d0;replace d8:=eq_true d8;replace d9:=eq_true d9;have h5:0≤(a2:Int):=zqo;have h6:a2<(a1.length:Int):=zqo;obtain⟨l3,k2,k3,l6,f1,h0,h1⟩:=at_L3 (Kd.S_reads' HO_924000.out).2.2 a2 h5 h6;obtain rfl:c4=l3:=(by injection l6);obtain⟨s7,k4,k5,i2⟩:=Kd.S_get HO_924000.out [] a2 h5 zr67;obtain⟨p0,rfl,f2⟩:=k5;have d2:=i2 0 _ rfl;rw [Nat.add_zero,show ((Kd.slice 3 (Kd.int .i64))).sz=1 from rfl,Nat.mul_one] at d2;replace d2:=Option.some.inj (d2.symm.trans f1);rw [d2] at f2;have d3:=zqm (show Kd.R (Kd.int .i64) 3 _ _ _ _ (rd_L3 a1 a2) from f2);clear d2 f2 i2 k4;have b9:=zqm h1;have p1:=zqm h0;clear h1 h0;replace h5:=eq_true h5;replace h6:=eq_true h6;have e5:0≤(a3:Int):=zqo;have e6:a3<((rd_L3 a1 a2).length:Int):=zqo;obtain⟨h4,i6,f0⟩:=Kd.at_int zr14 a3 e5 e6;have i7:0≤(a3:Int):=zqo;have i8:a3<((rd_L3 a1 a2).length:Int):=zqo;obtain⟨l4,l7,j5⟩:=Kd.at_int zr51 a3 i7 i8;refine start_ (n:=33) (S:=fun w'=>w'.cell? ⟨a5,0,none⟩=some (.slice (some c4) a1.length b2)∧w'.cell? ⟨a5,1,none⟩=some (.slice b1 a4.length a9)∧w'.cell? (c4.add (a2).toNat)=some (.slice g3 (rd_L3 a1 a2).length g4)∧w'.cell? (h4.add (a3).toNat)=some (.int .i64 (rd (rd_L3 a1 a2) a3))∧w'.cell? (c4.add (a2).toNat)=some (.slice k2 (rd_L3 a1 a2).length k3)∧w'.cell? (l4.add (a3).toNat)=some (.int .i64 (rd (rd_L3 a1 a2) a3))) (ds:= []) (zqb 33 0) zqk rfl rfl ⟨(blk_cell a0.out 0).trans rfl,(blk_cell a0.out 1).trans rfl,b7,f0,f1,j5⟩ (fun hHeld=>?_);refine with_tabW laws_FnUpToOf.tab12 laws_FnUpToOf.bits12 (fun HT_ HW_=>?_);generalize wr.drew=w46 at HO_5 HO_924000 HO_924001 a0 HB c9 d3 b0 b9 b7 f1 hHeld ⊢;refine pure_ (i:=0) (N:=some 35) (v:=?_) (a':=?_) (zqb 33 1) rfl rfl (any_of HT_.out zqk) (fun _ _ _ h=>h) (Or.inl ⟨by rfl,?_⟩) ?_ ?_;rotate_left
               ·exact zqt
               rotate_left
               ·exact zqs
               refine pure_ (i:=1) (N:=some 36) (v:=?_) (a':=?_) (zqb 33 3) rfl rfl (any_of HT_.out zqk) (fun _ _ _ h=>h) (Or.inl ⟨by rfl,?_⟩) ?_ ?_;rotate_left
               ·exact zqt
               rotate_left
               ·exact zqs
               refine one_ (i:=2) (N:=some 37) (zqb 33 7) rfl rfl (one_of HT_.out zqk) (by decide) (fun K hK=>?_);refine goes_ Try.func48 zqk rfl #[.slice e3 a6.length e4,.int .i64 a2] (by rfl) rfl rfl zr2 ?_;(with_reducible refine(laws_hasInt.calls k1 _ _ a6 a2 true _ ?side1 ?side2 j9.out).mono ?_);(case side1=> exact zr8);(case side2=>exact(Kd.R_reads' HO_5.out).2.1);rintro e w' ⟨rfl,⟨nd,rfl⟩⟩;refine⟨_,rfl,?_⟩
               cases i6
               replace e5:=eq_true e5;replace e6:=eq_true e6;refine hK.out _ _ ⟨(blk_cell a0.out 0).trans rfl,(blk_cell a0.out 1).trans rfl,hHeld.2.2.1,hHeld.2.2.2.1,hHeld.2.2.2.2.1,hHeld.2.2.2.2.2⟩ (fun hHeld=>?_);clear hK K;refine norm_ (a':=?_) ?_ ?_;rotate_left
               ·show Act.put _ (some 37) _=_;exact zqs
               refine pure_ (i:=3) (N:=some 38) (v:=?_) (a':=?_) (zqb 33 15) rfl rfl (any_of HT_.out zqk) (fun _ _ _ h=>h) (Or.inl ⟨by rfl,?_⟩) ?_ ?_;rotate_left
               ·exact zqt
               rotate_left
               ·exact zqs
               refine pure_ (i:=4) (N:=some 39) (v:=?_) (a':=?_) (zqb 33 31) rfl rfl (any_of HT_.out zqk) (fun _ _ _ h=>h) (Or.inl ⟨by rfl,?_⟩) ?_ ?_;rotate_left
               ·exact zqt
               rotate_left
               ·exact zqs
               refine pure_ (i:=6) (N:=some 41) (v:=?_) (a':=?_) (zqb 33 95) rfl rfl (any_of HT_.out zqk) (fun _ _ _ h=>h) (Or.inl ⟨by rfl,?_⟩) ?_ ?_;rotate_left
               ·exact zqt
               rotate_left
               ·exact zqs
               refine pure_ (i:=9) (N:=some 44) (v:=?_) (a':=?_) (zqb 33 607) rfl rfl (any_of HT_.out zqk) (fun _ _ _ h=>h) (Or.inl ⟨by rfl,?_⟩) ?_ ?_;rotate_left
               ·exact zqt
               rotate_left
               ·exact zqs
               refine take_ (i:=5) (N:=some 40) (v:=?_) (a':=?_) (zqb 33 639) rfl rfl (take_ofW HT_.out HW_.out zqk) (fun _ _ _ h=>h) (Or.inl ⟨by rfl,?_⟩) hHeld ?_ ?_;rotate_left
               ·rintro w' ⟨s0,s1,s2,s3,s4,s5⟩;go_simp;with_reducible rfl
               rotate_left
               ·exact zqs
               refine pure_ (i:=7) (N:=some 42) (v:=?_) (a':=?_) (zqb 33 767) rfl rfl (any_of HT_.out zqk) (fun _ _ _ h=>h) (Or.inl ⟨by rfl,?_⟩) ?_ ?_;rotate_left
               ·exact zqt
               rotate_left
               ·exact zqs
               refine take_ (i:=8) (N:=some 43) (v:=?_) (a':=?_) (zqb 33 1023) rfl rfl (take_ofW HT_.out HW_.out zqk) (fun _ _ _ h=>h) (Or.inl ⟨by rfl,?_⟩) hHeld ?_ ?_;rotate_left
               ·rintro w' ⟨s0,s1,s2,s3,s4,s5⟩;go_simp;with_reducible rfl
               rotate_left
               ·exact zqs
               refine pure_ (i:=10) (N:=some 45) (v:=?_) (a':=?_) (zqb 33 2047) rfl rfl (any_of HT_.out zqk) (fun _ _ _ h=>h) (Or.inl ⟨by rfl,?_⟩) ?_ ?_;rotate_left
               ·exact zqt
               rotate_left
               ·exact zqs
               refine take_ (i:=11) (N:=some 46) (v:=?_) (a':=?_) (zqb 33 4095) rfl rfl (take_ofW HT_.out HW_.out zqk) (fun _ _ _ h=>h) (Or.inl ⟨by rfl,?_⟩) hHeld ?_ ?_;rotate_left
               ·rintro w' ⟨s0,s1,s2,s3,s4,s5⟩;go_simp;with_reducible rfl
               rotate_left
               ·exact zqs
               refine pure_ (i:=12) (N:=some 47) (v:=?_) (a':=?_) (zqb 33 8191) rfl rfl (any_of HT_.out zqk) (fun _ _ _ h=>h) (Or.inl ⟨by rfl,?_⟩) ?_ ?_;rotate_left
               ·exact zqt
               rotate_left
               ·exact zqs
               refine pure_ (i:=13) (N:=some 48) (v:=?_) (a':=?_) (zqb 33 16383) rfl rfl (any_of HT_.out zqk) (fun _ _ _ h=>h) (Or.inl ⟨by rfl,?_⟩) ?_ ?_;rotate_left
               ·exact zqt
               rotate_left
               ·exact zqs
               refine pure_ (i:=14) (N:=some 49) (v:=?_) (a':=?_) (zqb 33 32767) rfl rfl (any_of HT_.out zqk) (fun _ _ _ h=>h) (Or.inl ⟨by rfl,?_⟩) ?_ ?_;rotate_left
               ·exact zqt
               rotate_left
               ·exact zqs
               refine take_ (i:=15) (N:=some 50) (v:=?_) (a':=?_) (zqb 33 65535) rfl rfl (take_ofW HT_.out HW_.out zqk) (fun _ _ _ h=>h) (Or.inl ⟨by rfl,?_⟩) hHeld ?_ ?_;rotate_left
               ·rintro w' ⟨s0,s1,s2,s3,s4,s5⟩;go_simp;with_reducible rfl
               rotate_left
               ·exact zqs
               refine one_ (i:=16) (N:=some 51) (zqb 33 131071) rfl rfl (one_of HT_.out zqk) (by decide) (fun K hK=>?_);refine goes_ Try.func22 zqk rfl #[.agg #[.slice (some c4) a1.length b2,.slice b1 a4.length a9]] (by rfl) rfl rfl zr2 ?_;(with_reducible refine(spec_KeepsOk.calls k1 _ _ a1 _ _ a4 true _ ?side1 ?side2 ?side3 ?side4 q8.out).mono ?_);(case side1=> exact zr19);(case side2=>exact(Kd.S_reads' HO_924000.out).2.1);(case side3=> exact zr20);(case side4=>exact(Kd.Q_reads' HO_924001.out).2.1);rintro e w47 ⟨rfl,hb⟩;have h7:=(hb.cell (World.block_lt_of_cell? _ _ (hHeld.2.2.1))).trans (hHeld.2.2.1);have h8:=(hb.cell (World.block_lt_of_cell? _ _ (hHeld.2.2.2.1))).trans (hHeld.2.2.2.1);have l8:=(hb.cell (World.block_lt_of_cell? _ _ (hHeld.2.2.2.2.1))).trans (hHeld.2.2.2.2.1);have l9:=(hb.cell (World.block_lt_of_cell? _ _ (hHeld.2.2.2.2.2))).trans (hHeld.2.2.2.2.2);refine⟨_,rfl,?_⟩
               first|(replace d3:=zqm (Kd.R_below d3.out hb))|(replace d3:=zqm (Kd.R_below (Kd.R_drewN d3.out _) hb))
               first|(replace b9:=zqm (Kd.C_below b9.out hb))|(replace b9:=zqm (Kd.C_below (Kd.C_drewN b9.out _) hb))
               replace HO_5:=zqm (Kd.R_below zr7 hb);replace HO_924000:=zqm (Kd.S_below zr21 hb);replace HO_924001:=zqm (Kd.Q_below zr22 hb);replace c9:=zqm (Kd.R_below zr59 hb);replace a0:=zqm (blk_below (g:=a5) (o:= .cells #[.slice (some c4) a1.length b2,.slice b1 a4.length a9] 30 (0,0)) zr1 hb);replace b0:=zqm (Kd.C_below zr14 hb);replace HB:=zqm (below_step zr3 hb);(try clear hb);(try clear hb2);(try clear hk);(try clear hi);refine hK.out _ _ ⟨(blk_cell a0.out 0).trans rfl,(blk_cell a0.out 1).trans rfl,h7,h8,l8,l9⟩ (fun hHeld=>?_);clear hK K;refine norm_ (a':=?_) ?_ ?_;rotate_left
               ·show Act.put _ (some 51) _=_;exact zqs
               refine pure_ (i:=17) (N:=some 52) (v:=?_) (a':=?_) (zqb 33 262143) rfl rfl (any_of HT_.out zqk) (fun _ _ _ h=>h) (Or.inl ⟨by rfl,?_⟩) ?_ ?_;rotate_left
               ·exact zqt
               rotate_left
               ·exact zqs
               refine pure_ (i:=18) (N:=some 53) (v:=?_) (a':=?_) (zqb 33 524287) rfl rfl (any_of HT_.out zqk) (fun _ _ _ h=>h) (Or.inl ⟨by rfl,?_⟩) ?_ ?_;rotate_left
               ·exact zqt
               rotate_left
               ·exact zqs
               refine pure_ (i:=19) (N:=some 54) (v:=?_) (a':=?_) (zqb 33 1048575) rfl rfl (any_of HT_.out zqk) (fun _ _ _ h=>h) (Or.inl ⟨by rfl,?_⟩) ?_ ?_;rotate_left
               ·exact zqt
               rotate_left
               ·exact zqs
               refine pure_ (i:=21) (N:=some 56) (v:=?_) (a':=?_) (zqb 33 3145727) rfl rfl (any_of HT_.out zqk) (fun _ _ _ h=>h) (Or.inl ⟨by rfl,?_⟩) ?_ ?_;rotate_left
               ·exact zqt
               rotate_left
               ·exact zqs
               refine pure_ (i:=23) (N:=some 58) (v:=?_) (a':=?_) (zqb 33 11534335) rfl rfl (any_of HT_.out zqk) (fun _ _ _ h=>h) (Or.inl ⟨by rfl,?_⟩) ?_ ?_;rotate_left
               ·exact zqt
               rotate_left
               ·exact zqs
               refine pure_ (i:=26) (N:=some 61) (v:=?_) (a':=?_) (zqb 33 78643199) rfl rfl (any_of HT_.out zqk) (fun _ _ _ h=>h) (Or.inl ⟨by rfl,?_⟩) ?_ ?_;rotate_left
               ·exact zqt
               rotate_left
               ·exact zqs
               refine take_ (i:=22) (N:=some 57) (v:=?_) (a':=?_) (zqb 33 82837503) rfl rfl (take_ofW HT_.out HW_.out zqk) (fun _ _ _ h=>h) (Or.inl ⟨by rfl,?_⟩) hHeld ?_ ?_;rotate_left
               ·rintro w' ⟨s0,s1,s2,s3,s4,s5⟩;go_simp;with_reducible rfl
               rotate_left
               ·exact zqs
               refine pure_ (i:=24) (N:=some 59) (v:=?_) (a':=?_) (zqb 33 99614719) rfl rfl (any_of HT_.out zqk) (fun _ _ _ h=>h) (Or.inl ⟨by rfl,?_⟩) ?_ ?_;rotate_left
               ·exact zqt
               rotate_left
               ·exact zqs
               refine take_ (i:=25) (N:=some 60) (v:=?_) (a':=?_) (zqb 33 133169151) rfl rfl (take_ofW HT_.out HW_.out zqk) (fun _ _ _ h=>h) (Or.inl ⟨by rfl,?_⟩) hHeld ?_ ?_;rotate_left
               ·rintro w' ⟨s0,s1,s2,s3,s4,s5⟩;go_simp;with_reducible rfl
               rotate_left
               ·exact zqs
               refine pure_ (i:=27) (N:=some 62) (v:=?_) (a':=?_) (zqb 33 267386879) rfl rfl (any_of HT_.out zqk) (fun _ _ _ h=>h) (Or.inl ⟨by rfl,?_⟩) ?_ ?_;rotate_left
               ·exact zqt
               rotate_left
               ·exact zqs
               refine take_ (i:=28) (N:=some 63) (v:=?_) (a':=?_) (zqb 33 535822335) rfl rfl (take_ofW HT_.out HW_.out zqk) (fun _ _ _ h=>h) (Or.inl ⟨by rfl,?_⟩) hHeld ?_ ?_;rotate_left
               ·rintro w' ⟨s0,s1,s2,s3,s4,s5⟩;go_simp;with_reducible rfl
               rotate_left
               ·exact zqs
               refine pure_ (i:=29) (N:=some 64) (v:=?_) (a':=?_) (zqb 33 1072693247) rfl rfl (any_of HT_.out zqk) (fun _ _ _ h=>h) (Or.inl ⟨by rfl,?_⟩) ?_ ?_;rotate_left
               ·exact zqt
               rotate_left
               ·exact zqs
               refine one_ (i:=20) (N:=some 55) (zqb 33 1073741823) rfl rfl (one_of HT_.out zqk) (by decide) (fun K hK=>?_);refine goes_ Try.func48 zqk rfl #[.slice e3 a6.length e4,.int .i64 a2] (by rfl) rfl rfl zr2 ?_;(with_reducible refine(laws_hasInt.calls k1 _ _ a6 a2 d6 _ ?side1 ?side2 u1.out).mono ?_);(case side1=> exact zr8);(case side2=>exact(Kd.R_reads' HO_5.out).2.1);rintro e w' ⟨rfl,⟨nd,rfl⟩⟩;refine⟨_,rfl,?_⟩
               cases l7
               replace i7:=eq_true i7;replace i8:=eq_true i8;refine hK.out _ _ ⟨(blk_cell a0.out 0).trans rfl,(blk_cell a0.out 1).trans rfl,hHeld.2.2.1,hHeld.2.2.2.1,hHeld.2.2.2.2.1,hHeld.2.2.2.2.2⟩ (fun hHeld=>?_);clear hK K;refine norm_ (a':=?_) ?_ ?_;rotate_left
               ·show Act.put _ (some 55) _=_;exact zqs
               refine pure_ (i:=30) (N:=some 65) (v:=?_) (a':=?_) (zqb 33 2147483647) rfl rfl (any_of HT_.out zqk) (fun _ _ _ h=>h) (Or.inl ⟨by rfl,?_⟩) ?_ ?_;rotate_left
               ·exact zqt
               rotate_left
               ·exact zqs
               refine pure_ (i:=31) (N:=some 66) (v:=?_) (a':=?_) (zqb 33 4294967295) rfl rfl (any_of HT_.out zqk) (fun _ _ _ h=>h) (Or.inl ⟨by rfl,?_⟩) ?_ ?_;rotate_left
               ·exact zqt
               rotate_left
               ·exact zqs
               refine pure_ (i:=32) (N:=some 67) (v:=?_) (a':=?_) (zqb 33 8589934591) rfl rfl (any_of HT_.out zqk) (fun _ _ _ h=>h) (Or.inl ⟨by rfl,?_⟩) ?_ ?_;rotate_left
               ·exact zqt
               rotate_left
               ·exact zqs
               refine done_ (done_of HT_.out zqk) ?_;try go_wp2
               go_ret
               exact⟨zr12,zr3⟩
              ·rw [if_neg i1] at H;(have r8:(d6 !=((rd (rd_L3 a1 a2) a3)==1))=false:=by simpa using i1);(try(have r9:decide (d6=((rd (rd_L3 a1 a2) a3)==1))=true:=by simpa using i1));(try(have s6:(d6==((rd (rd_L3 a1 a2) a3)==1))=true:=by simpa using i1));clear i1;have H':=zqm H;clear H;have x8:wr.cell? ⟨a5,0,none⟩=some (.slice c6 a1.length b2):=(blk_cell a0.out 0).trans rfl;have x9:wr.cell? ⟨a5,1,none⟩=some (.slice b1 a4.length a9):=(blk_cell a0.out 1).trans rfl;have y0:=blk_frozen a0.out 0;have y1:=blk_frozen a0.out 1;(try go_wp2);replace HO_5:=zqm (Kd.R_drew HO_5.out);replace HO_924000:=zqm (Kd.S_drew HO_924000.out);replace HO_924001:=zqm (Kd.Q_drew HO_924001.out);replace a0:=zqm (blk_drew a0.out);replace HB:=zqm (below_drew1 HB.out);have d8:0≤(a2:Int):=zqo;have d9:a2<(a1.length:Int):=zqo;obtain⟨c4,g3,g4,i5,b7,d0,d1⟩:=at_L3 (Kd.S_reads' HO_924000.out).2.2 a2 d8 d9
               cases i5
               obtain⟨l2,g5,g6,e0⟩:=Kd.S_get HO_924000.out [] a2 d8 zr57;obtain⟨j3,rfl,b8⟩:=g6;have b3:=e0 0 _ rfl;rw [Nat.add_zero,show ((Kd.slice 3 (Kd.int .i64))).sz=1 from rfl,Nat.mul_one] at b3;replace b3:=Option.some.inj (b3.symm.trans b7);rw [b3] at b8;have c9:=zqm (show Kd.R (Kd.int .i64) 3 _ _ _ _ (rd_L3 a1 a2) from b8);clear b3 b8 e0 g5;have b0:=zqm d1;have j4:=zqm d0;clear d1 d0;replace d8:=eq_true d8;replace d9:=eq_true d9;have h5:0≤(a2:Int):=zqo;have h6:a2<(a1.length:Int):=zqo;obtain⟨l3,k2,k3,l6,f1,h0,h1⟩:=at_L3 (Kd.S_reads' HO_924000.out).2.2 a2 h5 h6;obtain rfl:c4=l3:=(by injection l6);obtain⟨s7,k4,k5,i2⟩:=Kd.S_get HO_924000.out [] a2 h5 zr67;obtain⟨p0,rfl,f2⟩:=k5;have d2:=i2 0 _ rfl;rw [Nat.add_zero,show ((Kd.slice 3 (Kd.int .i64))).sz=1 from rfl,Nat.mul_one] at d2;replace d2:=Option.some.inj (d2.symm.trans f1);rw [d2] at f2;have d3:=zqm (show Kd.R (Kd.int .i64) 3 _ _ _ _ (rd_L3 a1 a2) from f2);clear d2 f2 i2 k4;have b9:=zqm h1;have p1:=zqm h0;clear h1 h0;replace h5:=eq_true h5;replace h6:=eq_true h6;have e5:0≤(a3:Int):=zqo;have e6:a3<((rd_L3 a1 a2).length:Int):=zqo;obtain⟨h4,i6,f0⟩:=Kd.at_int zr14 a3 e5 e6;have i7:0≤(a3:Int):=zqo;have i8:a3<((rd_L3 a1 a2).length:Int):=zqo;obtain⟨l4,l7,j5⟩:=Kd.at_int zr51 a3 i7 i8;refine start_ (n:=33) (S:=fun w'=>w'.cell? ⟨a5,0,none⟩=some (.slice (some c4) a1.length b2)∧w'.cell? ⟨a5,1,none⟩=some (.slice b1 a4.length a9)∧w'.cell? (c4.add (a2).toNat)=some (.slice g3 (rd_L3 a1 a2).length g4)∧w'.cell? (h4.add (a3).toNat)=some (.int .i64 (rd (rd_L3 a1 a2) a3))∧w'.cell? (c4.add (a2).toNat)=some (.slice k2 (rd_L3 a1 a2).length k3)∧w'.cell? (l4.add (a3).toNat)=some (.int .i64 (rd (rd_L3 a1 a2) a3))) (ds:= []) (zqb 33 0) zqk rfl rfl ⟨(blk_cell a0.out 0).trans rfl,(blk_cell a0.out 1).trans rfl,b7,f0,f1,j5⟩ (fun hHeld=>?_);refine with_tabW laws_FnUpToOf.tab12 laws_FnUpToOf.bits12 (fun HT_ HW_=>?_);generalize wr.drew=w49 at HO_5 HO_924000 HO_924001 a0 HB c9 d3 b0 b9 b7 f1 hHeld ⊢;refine pure_ (i:=0) (N:=some 35) (v:=?_) (a':=?_) (zqb 33 1) rfl rfl (any_of HT_.out zqk) (fun _ _ _ h=>h) (Or.inl ⟨by rfl,?_⟩) ?_ ?_;rotate_left
               ·exact zqt
               rotate_left
               ·exact zqs
               refine pure_ (i:=1) (N:=some 36) (v:=?_) (a':=?_) (zqb 33 3) rfl rfl (any_of HT_.out zqk) (fun _ _ _ h=>h) (Or.inl ⟨by rfl,?_⟩) ?_ ?_;rotate_left
               ·exact zqt
               rotate_left
               ·exact zqs
               refine one_ (i:=2) (N:=some 37) (zqb 33 7) rfl rfl (one_of HT_.out zqk) (by decide) (fun K hK=>?_);refine goes_ Try.func48 zqk rfl #[.slice e3 a6.length e4,.int .i64 a2] (by rfl) rfl rfl zr2 ?_;(with_reducible refine(laws_hasInt.calls k1 _ _ a6 a2 true _ ?side1 ?side2 j9.out).mono ?_);(case side1=> exact zr8);(case side2=>exact(Kd.R_reads' HO_5.out).2.1);rintro e w' ⟨rfl,⟨nd,rfl⟩⟩;refine⟨_,rfl,?_⟩
               cases i6
               replace e5:=eq_true e5;replace e6:=eq_true e6;refine hK.out _ _ ⟨(blk_cell a0.out 0).trans rfl,(blk_cell a0.out 1).trans rfl,hHeld.2.2.1,hHeld.2.2.2.1,hHeld.2.2.2.2.1,hHeld.2.2.2.2.2⟩ (fun hHeld=>?_);clear hK K;refine norm_ (a':=?_) ?_ ?_;rotate_left
               ·show Act.put _ (some 37) _=_;exact zqs
               refine pure_ (i:=3) (N:=some 38) (v:=?_) (a':=?_) (zqb 33 15) rfl rfl (any_of HT_.out zqk) (fun _ _ _ h=>h) (Or.inl ⟨by rfl,?_⟩) ?_ ?_;rotate_left
               ·exact zqt
               rotate_left
               ·exact zqs
               refine pure_ (i:=4) (N:=some 39) (v:=?_) (a':=?_) (zqb 33 31) rfl rfl (any_of HT_.out zqk) (fun _ _ _ h=>h) (Or.inl ⟨by rfl,?_⟩) ?_ ?_;rotate_left
               ·exact zqt
               rotate_left
               ·exact zqs
               refine pure_ (i:=6) (N:=some 41) (v:=?_) (a':=?_) (zqb 33 95) rfl rfl (any_of HT_.out zqk) (fun _ _ _ h=>h) (Or.inl ⟨by rfl,?_⟩) ?_ ?_;rotate_left
               ·exact zqt
               rotate_left
               ·exact zqs
               refine pure_ (i:=9) (N:=some 44) (v:=?_) (a':=?_) (zqb 33 607) rfl rfl (any_of HT_.out zqk) (fun _ _ _ h=>h) (Or.inl ⟨by rfl,?_⟩) ?_ ?_;rotate_left
               ·exact zqt
               rotate_left
               ·exact zqs
               refine take_ (i:=5) (N:=some 40) (v:=?_) (a':=?_) (zqb 33 639) rfl rfl (take_ofW HT_.out HW_.out zqk) (fun _ _ _ h=>h) (Or.inl ⟨by rfl,?_⟩) hHeld ?_ ?_;rotate_left
               ·rintro w' ⟨s0,s1,s2,s3,s4,s5⟩;go_simp;with_reducible rfl
               rotate_left
               ·exact zqs
               refine pure_ (i:=7) (N:=some 42) (v:=?_) (a':=?_) (zqb 33 767) rfl rfl (any_of HT_.out zqk) (fun _ _ _ h=>h) (Or.inl ⟨by rfl,?_⟩) ?_ ?_;rotate_left
               ·exact zqt
               rotate_left
               ·exact zqs
               refine take_ (i:=8) (N:=some 43) (v:=?_) (a':=?_) (zqb 33 1023) rfl rfl (take_ofW HT_.out HW_.out zqk) (fun _ _ _ h=>h) (Or.inl ⟨by rfl,?_⟩) hHeld ?_ ?_;rotate_left
               ·rintro w' ⟨s0,s1,s2,s3,s4,s5⟩;go_simp;with_reducible rfl
               rotate_left
               ·exact zqs
               refine pure_ (i:=10) (N:=some 45) (v:=?_) (a':=?_) (zqb 33 2047) rfl rfl (any_of HT_.out zqk) (fun _ _ _ h=>h) (Or.inl ⟨by rfl,?_⟩) ?_ ?_;rotate_left
               ·exact zqt
               rotate_left
               ·exact zqs
               refine take_ (i:=11) (N:=some 46) (v:=?_) (a':=?_) (zqb 33 4095) rfl rfl (take_ofW HT_.out HW_.out zqk) (fun _ _ _ h=>h) (Or.inl ⟨by rfl,?_⟩) hHeld ?_ ?_;rotate_left
               ·rintro w' ⟨s0,s1,s2,s3,s4,s5⟩;go_simp;with_reducible rfl
               rotate_left
               ·exact zqs
               refine pure_ (i:=12) (N:=some 47) (v:=?_) (a':=?_) (zqb 33 8191) rfl rfl (any_of HT_.out zqk) (fun _ _ _ h=>h) (Or.inl ⟨by rfl,?_⟩) ?_ ?_;rotate_left
               ·exact zqt
               rotate_left
               ·exact zqs
               refine pure_ (i:=13) (N:=some 48) (v:=?_) (a':=?_) (zqb 33 16383) rfl rfl (any_of HT_.out zqk) (fun _ _ _ h=>h) (Or.inl ⟨by rfl,?_⟩) ?_ ?_;rotate_left
               ·exact zqt
               rotate_left
               ·exact zqs
               refine pure_ (i:=14) (N:=some 49) (v:=?_) (a':=?_) (zqb 33 32767) rfl rfl (any_of HT_.out zqk) (fun _ _ _ h=>h) (Or.inl ⟨by rfl,?_⟩) ?_ ?_;rotate_left
               ·exact zqt
               rotate_left
               ·exact zqs
               refine take_ (i:=15) (N:=some 50) (v:=?_) (a':=?_) (zqb 33 65535) rfl rfl (take_ofW HT_.out HW_.out zqk) (fun _ _ _ h=>h) (Or.inl ⟨by rfl,?_⟩) hHeld ?_ ?_;rotate_left
               ·rintro w' ⟨s0,s1,s2,s3,s4,s5⟩;go_simp;with_reducible rfl
               rotate_left
               ·exact zqs
               refine one_ (i:=16) (N:=some 51) (zqb 33 131071) rfl rfl (one_of HT_.out zqk) (by decide) (fun K hK=>?_);refine goes_ Try.func22 zqk rfl #[.agg #[.slice (some c4) a1.length b2,.slice b1 a4.length a9]] (by rfl) rfl rfl zr2 ?_;(with_reducible refine(spec_KeepsOk.calls k1 _ _ a1 _ _ a4 true _ ?side1 ?side2 ?side3 ?side4 q8.out).mono ?_);(case side1=> exact zr19);(case side2=>exact(Kd.S_reads' HO_924000.out).2.1);(case side3=> exact zr20);(case side4=>exact(Kd.Q_reads' HO_924001.out).2.1);rintro e w50 ⟨rfl,hb⟩;have h7:=(hb.cell (World.block_lt_of_cell? _ _ (hHeld.2.2.1))).trans (hHeld.2.2.1);have h8:=(hb.cell (World.block_lt_of_cell? _ _ (hHeld.2.2.2.1))).trans (hHeld.2.2.2.1);have l8:=(hb.cell (World.block_lt_of_cell? _ _ (hHeld.2.2.2.2.1))).trans (hHeld.2.2.2.2.1);have l9:=(hb.cell (World.block_lt_of_cell? _ _ (hHeld.2.2.2.2.2))).trans (hHeld.2.2.2.2.2);refine⟨_,rfl,?_⟩
               first|(replace d3:=zqm (Kd.R_below d3.out hb))|(replace d3:=zqm (Kd.R_below (Kd.R_drewN d3.out _) hb))
               first|(replace b9:=zqm (Kd.C_below b9.out hb))|(replace b9:=zqm (Kd.C_below (Kd.C_drewN b9.out _) hb))
               replace HO_5:=zqm (Kd.R_below zr7 hb);replace HO_924000:=zqm (Kd.S_below zr21 hb);replace HO_924001:=zqm (Kd.Q_below zr22 hb);replace c9:=zqm (Kd.R_below zr59 hb);replace a0:=zqm (blk_below (g:=a5) (o:= .cells #[.slice (some c4) a1.length b2,.slice b1 a4.length a9] 30 (0,0)) zr1 hb);replace b0:=zqm (Kd.C_below zr14 hb);replace HB:=zqm (below_step zr3 hb);(try clear hb);(try clear hb2);(try clear hk);(try clear hi);refine hK.out _ _ ⟨(blk_cell a0.out 0).trans rfl,(blk_cell a0.out 1).trans rfl,h7,h8,l8,l9⟩ (fun hHeld=>?_);clear hK K;refine norm_ (a':=?_) ?_ ?_;rotate_left
               ·show Act.put _ (some 51) _=_;exact zqs
               refine pure_ (i:=17) (N:=some 52) (v:=?_) (a':=?_) (zqb 33 262143) rfl rfl (any_of HT_.out zqk) (fun _ _ _ h=>h) (Or.inl ⟨by rfl,?_⟩) ?_ ?_;rotate_left
               ·exact zqt
               rotate_left
               ·exact zqs
               refine pure_ (i:=18) (N:=some 53) (v:=?_) (a':=?_) (zqb 33 524287) rfl rfl (any_of HT_.out zqk) (fun _ _ _ h=>h) (Or.inl ⟨by rfl,?_⟩) ?_ ?_;rotate_left
               ·exact zqt
               rotate_left
               ·exact zqs
               refine pure_ (i:=19) (N:=some 54) (v:=?_) (a':=?_) (zqb 33 1048575) rfl rfl (any_of HT_.out zqk) (fun _ _ _ h=>h) (Or.inl ⟨by rfl,?_⟩) ?_ ?_;rotate_left
               ·exact zqt
               rotate_left
               ·exact zqs
               refine pure_ (i:=21) (N:=some 56) (v:=?_) (a':=?_) (zqb 33 3145727) rfl rfl (any_of HT_.out zqk) (fun _ _ _ h=>h) (Or.inl ⟨by rfl,?_⟩) ?_ ?_;rotate_left
               ·exact zqt
               rotate_left
               ·exact zqs
               refine pure_ (i:=23) (N:=some 58) (v:=?_) (a':=?_) (zqb 33 11534335) rfl rfl (any_of HT_.out zqk) (fun _ _ _ h=>h) (Or.inl ⟨by rfl,?_⟩) ?_ ?_;rotate_left
               ·exact zqt
               rotate_left
               ·exact zqs
               refine pure_ (i:=26) (N:=some 61) (v:=?_) (a':=?_) (zqb 33 78643199) rfl rfl (any_of HT_.out zqk) (fun _ _ _ h=>h) (Or.inl ⟨by rfl,?_⟩) ?_ ?_;rotate_left
               ·exact zqt
               rotate_left
               ·exact zqs
               refine take_ (i:=22) (N:=some 57) (v:=?_) (a':=?_) (zqb 33 82837503) rfl rfl (take_ofW HT_.out HW_.out zqk) (fun _ _ _ h=>h) (Or.inl ⟨by rfl,?_⟩) hHeld ?_ ?_;rotate_left
               ·rintro w' ⟨s0,s1,s2,s3,s4,s5⟩;go_simp;with_reducible rfl
               rotate_left
               ·exact zqs
               refine pure_ (i:=24) (N:=some 59) (v:=?_) (a':=?_) (zqb 33 99614719) rfl rfl (any_of HT_.out zqk) (fun _ _ _ h=>h) (Or.inl ⟨by rfl,?_⟩) ?_ ?_;rotate_left
               ·exact zqt
               rotate_left
               ·exact zqs
               refine take_ (i:=25) (N:=some 60) (v:=?_) (a':=?_) (zqb 33 133169151) rfl rfl (take_ofW HT_.out HW_.out zqk) (fun _ _ _ h=>h) (Or.inl ⟨by rfl,?_⟩) hHeld ?_ ?_;rotate_left
               ·rintro w' ⟨s0,s1,s2,s3,s4,s5⟩;go_simp;with_reducible rfl
               rotate_left
               ·exact zqs
               refine pure_ (i:=27) (N:=some 62) (v:=?_) (a':=?_) (zqb 33 267386879) rfl rfl (any_of HT_.out zqk) (fun _ _ _ h=>h) (Or.inl ⟨by rfl,?_⟩) ?_ ?_;rotate_left
               ·exact zqt
               rotate_left
               ·exact zqs
               refine take_ (i:=28) (N:=some 63) (v:=?_) (a':=?_) (zqb 33 535822335) rfl rfl (take_ofW HT_.out HW_.out zqk) (fun _ _ _ h=>h) (Or.inl ⟨by rfl,?_⟩) hHeld ?_ ?_;rotate_left
               ·rintro w' ⟨s0,s1,s2,s3,s4,s5⟩;go_simp;with_reducible rfl
               rotate_left
               ·exact zqs
               refine pure_ (i:=29) (N:=some 64) (v:=?_) (a':=?_) (zqb 33 1072693247) rfl rfl (any_of HT_.out zqk) (fun _ _ _ h=>h) (Or.inl ⟨by rfl,?_⟩) ?_ ?_;rotate_left
               ·exact zqt
               rotate_left
               ·exact zqs
               refine one_ (i:=20) (N:=some 55) (zqb 33 1073741823) rfl rfl (one_of HT_.out zqk) (by decide) (fun K hK=>?_);refine goes_ Try.func48 zqk rfl #[.slice e3 a6.length e4,.int .i64 a2] (by rfl) rfl rfl zr2 ?_;(with_reducible refine(laws_hasInt.calls k1 _ _ a6 a2 d6 _ ?side1 ?side2 u1.out).mono ?_);(case side1=> exact zr8);(case side2=>exact(Kd.R_reads' HO_5.out).2.1);rintro e w' ⟨rfl,⟨nd,rfl⟩⟩;refine⟨_,rfl,?_⟩
               cases l7
               replace i7:=eq_true i7;replace i8:=eq_true i8;refine hK.out _ _ ⟨(blk_cell a0.out 0).trans rfl,(blk_cell a0.out 1).trans rfl,hHeld.2.2.1,hHeld.2.2.2.1,hHeld.2.2.2.2.1,hHeld.2.2.2.2.2⟩ (fun hHeld=>?_);clear hK K;refine norm_ (a':=?_) ?_ ?_;rotate_left
               ·show Act.put _ (some 55) _=_;exact zqs
               refine pure_ (i:=30) (N:=some 65) (v:=?_) (a':=?_) (zqb 33 2147483647) rfl rfl (any_of HT_.out zqk) (fun _ _ _ h=>h) (Or.inl ⟨by rfl,?_⟩) ?_ ?_;rotate_left
               ·exact zqt
               rotate_left
               ·exact zqs
               refine pure_ (i:=31) (N:=some 66) (v:=?_) (a':=?_) (zqb 33 4294967295) rfl rfl (any_of HT_.out zqk) (fun _ _ _ h=>h) (Or.inl ⟨by rfl,?_⟩) ?_ ?_;rotate_left
               ·exact zqt
               rotate_left
               ·exact zqs
               refine pure_ (i:=32) (N:=some 67) (v:=?_) (a':=?_) (zqb 33 8589934591) rfl rfl (any_of HT_.out zqk) (fun _ _ _ h=>h) (Or.inl ⟨by rfl,?_⟩) ?_ ?_;rotate_left
               ·exact zqt
               rotate_left
               ·exact zqs
               refine done_ (done_of HT_.out zqk) ?_;try go_wp2
               go_roundg k1
               (case measure=>have:=j8.out;omega);case rel=>exact⟨(wrap64 (a2+1)),(by first|rfl|(simp;done)|(simp [*];done)),H',⟨by have:=j8.out;omega⟩,⟨zr7⟩,⟨zr21⟩,⟨zr22⟩,⟨zr1⟩,⟨zr3⟩⟩
             ·replace m8:=Bool.eq_false_iff.mpr m8;subst m8;(have H1:(laws_FnUpToOf.l0 k1 a3 a6 (wrap64 (a2+1)) a1 a4)=some r:=by rw [if_neg (show¬(false=true) by decide)] at H;exact H);clear H;have H:=H1;clear H1;have H':=zqm H;clear H;have y2:wr.cell? ⟨a5,0,none⟩=some (.slice c6 a1.length b2):=(blk_cell a0.out 0).trans rfl;have y3:wr.cell? ⟨a5,1,none⟩=some (.slice b1 a4.length a9):=(blk_cell a0.out 1).trans rfl;have y4:=blk_frozen a0.out 0;have y5:=blk_frozen a0.out 1;(try go_wp2);replace HO_5:=zqm (Kd.R_drew HO_5.out);replace HO_924000:=zqm (Kd.S_drew HO_924000.out);replace HO_924001:=zqm (Kd.Q_drew HO_924001.out);replace a0:=zqm (blk_drew a0.out);replace HB:=zqm (below_drew1 HB.out);have d8:0≤(a2:Int):=zqo;have d9:a2<(a1.length:Int):=zqo;obtain⟨c4,g3,g4,i5,b7,d0,d1⟩:=at_L3 (Kd.S_reads' HO_924000.out).2.2 a2 d8 d9
              cases i5
              obtain⟨l2,g5,g6,e0⟩:=Kd.S_get HO_924000.out [] a2 d8 zr57;obtain⟨j3,rfl,b8⟩:=g6;have b3:=e0 0 _ rfl;rw [Nat.add_zero,show ((Kd.slice 3 (Kd.int .i64))).sz=1 from rfl,Nat.mul_one] at b3;replace b3:=Option.some.inj (b3.symm.trans b7);rw [b3] at b8;have c9:=zqm (show Kd.R (Kd.int .i64) 3 _ _ _ _ (rd_L3 a1 a2) from b8);clear b3 b8 e0 g5;have b0:=zqm d1;have j4:=zqm d0;clear d1 d0;replace d8:=eq_true d8;replace d9:=eq_true d9;have e5:0≤(a3:Int):=zqo;have e6:a3<((rd_L3 a1 a2).length:Int):=zqo;obtain⟨h4,i6,f0⟩:=Kd.at_int zr14 a3 e5 e6;refine start_ (n:=33) (S:=fun w'=>w'.cell? ⟨a5,0,none⟩=some (.slice (some c4) a1.length b2)∧w'.cell? ⟨a5,1,none⟩=some (.slice b1 a4.length a9)∧w'.cell? (c4.add (a2).toNat)=some (.slice g3 (rd_L3 a1 a2).length g4)∧w'.cell? (h4.add (a3).toNat)=some (.int .i64 (rd (rd_L3 a1 a2) a3))) (ds:= []) (zqb 33 0) zqk rfl rfl ⟨(blk_cell a0.out 0).trans rfl,(blk_cell a0.out 1).trans rfl,b7,f0⟩ (fun hHeld=>?_);refine with_tabW laws_FnUpToOf.tab12 laws_FnUpToOf.bits12 (fun HT_ HW_=>?_);generalize wr.drew=w52 at HO_5 HO_924000 HO_924001 a0 HB c9 b0 b7 hHeld ⊢;refine pure_ (i:=0) (N:=some 35) (v:=?_) (a':=?_) (zqb 33 1) rfl rfl (any_of HT_.out zqk) (fun _ _ _ h=>h) (Or.inl ⟨by rfl,?_⟩) ?_ ?_;rotate_left
              ·exact zqt
              rotate_left
              ·exact zqs
              refine pure_ (i:=1) (N:=some 36) (v:=?_) (a':=?_) (zqb 33 3) rfl rfl (any_of HT_.out zqk) (fun _ _ _ h=>h) (Or.inl ⟨by rfl,?_⟩) ?_ ?_;rotate_left
              ·exact zqt
              rotate_left
              ·exact zqs
              refine one_ (i:=2) (N:=some 37) (zqb 33 7) rfl rfl (one_of HT_.out zqk) (by decide) (fun K hK=>?_);refine goes_ Try.func48 zqk rfl #[.slice e3 a6.length e4,.int .i64 a2] (by rfl) rfl rfl zr2 ?_;(with_reducible refine(laws_hasInt.calls k1 _ _ a6 a2 true _ ?side1 ?side2 j9.out).mono ?_);(case side1=> exact zr8);(case side2=>exact(Kd.R_reads' HO_5.out).2.1);rintro e w' ⟨rfl,⟨nd,rfl⟩⟩;refine⟨_,rfl,?_⟩
              cases i6
              replace e5:=eq_true e5;replace e6:=eq_true e6;refine hK.out _ _ ⟨(blk_cell a0.out 0).trans rfl,(blk_cell a0.out 1).trans rfl,hHeld.2.2.1,hHeld.2.2.2⟩ (fun hHeld=>?_);clear hK K;refine norm_ (a':=?_) ?_ ?_;rotate_left
              ·show Act.put _ (some 37) _=_;exact zqs
              refine pure_ (i:=3) (N:=some 38) (v:=?_) (a':=?_) (zqb 33 15) rfl rfl (any_of HT_.out zqk) (fun _ _ _ h=>h) (Or.inl ⟨by rfl,?_⟩) ?_ ?_;rotate_left
              ·exact zqt
              rotate_left
              ·exact zqs
              refine pure_ (i:=4) (N:=some 39) (v:=?_) (a':=?_) (zqb 33 31) rfl rfl (any_of HT_.out zqk) (fun _ _ _ h=>h) (Or.inl ⟨by rfl,?_⟩) ?_ ?_;rotate_left
              ·exact zqt
              rotate_left
              ·exact zqs
              refine pure_ (i:=6) (N:=some 41) (v:=?_) (a':=?_) (zqb 33 95) rfl rfl (any_of HT_.out zqk) (fun _ _ _ h=>h) (Or.inl ⟨by rfl,?_⟩) ?_ ?_;rotate_left
              ·exact zqt
              rotate_left
              ·exact zqs
              refine pure_ (i:=9) (N:=some 44) (v:=?_) (a':=?_) (zqb 33 607) rfl rfl (any_of HT_.out zqk) (fun _ _ _ h=>h) (Or.inl ⟨by rfl,?_⟩) ?_ ?_;rotate_left
              ·exact zqt
              rotate_left
              ·exact zqs
              refine take_ (i:=5) (N:=some 40) (v:=?_) (a':=?_) (zqb 33 639) rfl rfl (take_ofW HT_.out HW_.out zqk) (fun _ _ _ h=>h) (Or.inl ⟨by rfl,?_⟩) hHeld ?_ ?_;rotate_left
              ·rintro w' ⟨s0,s1,s2,s3⟩;go_simp;with_reducible rfl
              rotate_left
              ·exact zqs
              refine pure_ (i:=7) (N:=some 42) (v:=?_) (a':=?_) (zqb 33 767) rfl rfl (any_of HT_.out zqk) (fun _ _ _ h=>h) (Or.inl ⟨by rfl,?_⟩) ?_ ?_;rotate_left
              ·exact zqt
              rotate_left
              ·exact zqs
              refine take_ (i:=8) (N:=some 43) (v:=?_) (a':=?_) (zqb 33 1023) rfl rfl (take_ofW HT_.out HW_.out zqk) (fun _ _ _ h=>h) (Or.inl ⟨by rfl,?_⟩) hHeld ?_ ?_;rotate_left
              ·rintro w' ⟨s0,s1,s2,s3⟩;go_simp;with_reducible rfl
              rotate_left
              ·exact zqs
              refine pure_ (i:=10) (N:=some 45) (v:=?_) (a':=?_) (zqb 33 2047) rfl rfl (any_of HT_.out zqk) (fun _ _ _ h=>h) (Or.inl ⟨by rfl,?_⟩) ?_ ?_;rotate_left
              ·exact zqt
              rotate_left
              ·exact zqs
              refine take_ (i:=11) (N:=some 46) (v:=?_) (a':=?_) (zqb 33 4095) rfl rfl (take_ofW HT_.out HW_.out zqk) (fun _ _ _ h=>h) (Or.inl ⟨by rfl,?_⟩) hHeld ?_ ?_;rotate_left
              ·rintro w' ⟨s0,s1,s2,s3⟩;go_simp;with_reducible rfl
              rotate_left
              ·exact zqs
              refine pure_ (i:=12) (N:=some 47) (v:=?_) (a':=?_) (zqb 33 8191) rfl rfl (any_of HT_.out zqk) (fun _ _ _ h=>h) (Or.inl ⟨by rfl,?_⟩) ?_ ?_;rotate_left
              ·exact zqt
              rotate_left
              ·exact zqs
              refine pure_ (i:=13) (N:=some 48) (v:=?_) (a':=?_) (zqb 33 16383) rfl rfl (any_of HT_.out zqk) (fun _ _ _ h=>h) (Or.inl ⟨by rfl,?_⟩) ?_ ?_;rotate_left
              ·exact zqt
              rotate_left
              ·exact zqs
              refine pure_ (i:=14) (N:=some 49) (v:=?_) (a':=?_) (zqb 33 32767) rfl rfl (any_of HT_.out zqk) (fun _ _ _ h=>h) (Or.inl ⟨by rfl,?_⟩) ?_ ?_;rotate_left
              ·exact zqt
              rotate_left
              ·exact zqs
              refine take_ (i:=15) (N:=some 50) (v:=?_) (a':=?_) (zqb 33 65535) rfl rfl (take_ofW HT_.out HW_.out zqk) (fun _ _ _ h=>h) (Or.inl ⟨by rfl,?_⟩) hHeld ?_ ?_;rotate_left
              ·rintro w' ⟨s0,s1,s2,s3⟩;go_simp;with_reducible rfl
              rotate_left
              ·exact zqs
              refine one_ (i:=16) (N:=some 51) (zqb 33 131071) rfl rfl (one_of HT_.out zqk) (by decide) (fun K hK=>?_);refine goes_ Try.func22 zqk rfl #[.agg #[.slice (some c4) a1.length b2,.slice b1 a4.length a9]] (by rfl) rfl rfl zr2 ?_;(with_reducible refine(spec_KeepsOk.calls k1 _ _ a1 _ _ a4 false _ ?side1 ?side2 ?side3 ?side4 q8.out).mono ?_);(case side1=> exact zr19);(case side2=>exact(Kd.S_reads' HO_924000.out).2.1);(case side3=> exact zr20);(case side4=>exact(Kd.Q_reads' HO_924001.out).2.1);rintro e w53 ⟨rfl,hb⟩;have h7:=(hb.cell (World.block_lt_of_cell? _ _ (hHeld.2.2.1))).trans (hHeld.2.2.1);have h8:=(hb.cell (World.block_lt_of_cell? _ _ (hHeld.2.2.2))).trans (hHeld.2.2.2);refine⟨_,rfl,?_⟩;replace HO_5:=zqm (Kd.R_below zr7 hb);replace HO_924000:=zqm (Kd.S_below zr21 hb);replace HO_924001:=zqm (Kd.Q_below zr22 hb);replace c9:=zqm (Kd.R_below zr59 hb);replace a0:=zqm (blk_below (g:=a5) (o:= .cells #[.slice (some c4) a1.length b2,.slice b1 a4.length a9] 30 (0,0)) zr1 hb);replace b0:=zqm (Kd.C_below zr14 hb);replace HB:=zqm (below_step zr3 hb);clear hb;refine hK.out _ _ ⟨(blk_cell a0.out 0).trans rfl,(blk_cell a0.out 1).trans rfl,h7,h8⟩ (fun hHeld=>?_);clear hK K;refine norm_ (a':=?_) ?_ ?_;rotate_left
              ·show Act.put _ (some 51) _=_;exact zqs
              refine pure_ (i:=17) (N:=some 52) (v:=?_) (a':=?_) (zqb 33 262143) rfl rfl (any_of HT_.out zqk) (fun _ _ _ h=>h) (Or.inl ⟨by rfl,?_⟩) ?_ ?_;rotate_left
              ·exact zqt
              rotate_left
              ·exact zqs
              refine pure_ (i:=18) (N:=some 53) (v:=undef) (a':=?_) (zqb 33 524287) rfl rfl (any_of HT_.out zqk) (fun _ _ _ h=>h) (Or.inr ⟨by rfl,rfl⟩) ?_ ?_;rotate_left
              ·exact zqs
              refine pure_ (i:=19) (N:=some 54) (v:=undef) (a':=?_) (zqb 33 1048575) rfl rfl (any_of HT_.out zqk) (fun _ _ _ h=>h) (Or.inr ⟨by rfl,rfl⟩) ?_ ?_;rotate_left
              ·exact zqs
              refine pure_ (i:=20) (N:=some 55) (v:=undef) (a':=?_) (zqb 33 2097151) rfl rfl (any_of HT_.out zqk) (fun _ _ _ h=>h) (Or.inr ⟨by rfl,rfl⟩) ?_ ?_;rotate_left
              ·exact zqs
              refine pure_ (i:=21) (N:=some 56) (v:=undef) (a':=?_) (zqb 33 4194303) rfl rfl (any_of HT_.out zqk) (fun _ _ _ h=>h) (Or.inr ⟨by rfl,rfl⟩) ?_ ?_;rotate_left
              ·exact zqs
              refine pure_ (i:=22) (N:=some 57) (v:=undef) (a':=?_) (zqb 33 8388607) rfl rfl (any_of HT_.out zqk) (fun _ _ _ h=>h) (Or.inr ⟨by rfl,rfl⟩) ?_ ?_;rotate_left
              ·exact zqs
              refine pure_ (i:=23) (N:=some 58) (v:=undef) (a':=?_) (zqb 33 16777215) rfl rfl (any_of HT_.out zqk) (fun _ _ _ h=>h) (Or.inr ⟨by rfl,rfl⟩) ?_ ?_;rotate_left
              ·exact zqs
              refine pure_ (i:=24) (N:=some 59) (v:=undef) (a':=?_) (zqb 33 33554431) rfl rfl (any_of HT_.out zqk) (fun _ _ _ h=>h) (Or.inr ⟨by rfl,rfl⟩) ?_ ?_;rotate_left
              ·exact zqs
              refine pure_ (i:=25) (N:=some 60) (v:=undef) (a':=?_) (zqb 33 67108863) rfl rfl (any_of HT_.out zqk) (fun _ _ _ h=>h) (Or.inr ⟨by rfl,rfl⟩) ?_ ?_;rotate_left
              ·exact zqs
              refine pure_ (i:=26) (N:=some 61) (v:=undef) (a':=?_) (zqb 33 134217727) rfl rfl (any_of HT_.out zqk) (fun _ _ _ h=>h) (Or.inr ⟨by rfl,rfl⟩) ?_ ?_;rotate_left
              ·exact zqs
              refine pure_ (i:=27) (N:=some 62) (v:=undef) (a':=?_) (zqb 33 268435455) rfl rfl (any_of HT_.out zqk) (fun _ _ _ h=>h) (Or.inr ⟨by rfl,rfl⟩) ?_ ?_;rotate_left
              ·exact zqs
              refine pure_ (i:=28) (N:=some 63) (v:=undef) (a':=?_) (zqb 33 536870911) rfl rfl (any_of HT_.out zqk) (fun _ _ _ h=>h) (Or.inr ⟨by rfl,rfl⟩) ?_ ?_;rotate_left
              ·exact zqs
              refine pure_ (i:=29) (N:=some 64) (v:=undef) (a':=?_) (zqb 33 1073741823) rfl rfl (any_of HT_.out zqk) (fun _ _ _ h=>h) (Or.inr ⟨by rfl,rfl⟩) ?_ ?_;rotate_left
              ·exact zqs
              refine pure_ (i:=30) (N:=some 65) (v:=undef) (a':=?_) (zqb 33 2147483647) rfl rfl (any_of HT_.out zqk) (fun _ _ _ h=>h) (Or.inr ⟨by rfl,rfl⟩) ?_ ?_;rotate_left
              ·exact zqs
              refine pure_ (i:=31) (N:=some 66) (v:=?_) (a':=?_) (zqb 33 4294967295) rfl rfl (any_of HT_.out zqk) (fun _ _ _ h=>h) (Or.inl ⟨by rfl,?_⟩) ?_ ?_;rotate_left
              ·exact zqt
              rotate_left
              ·exact zqs
              refine pure_ (i:=32) (N:=some 67) (v:=?_) (a':=?_) (zqb 33 8589934591) rfl rfl (any_of HT_.out zqk) (fun _ _ _ h=>h) (Or.inl ⟨by rfl,?_⟩) ?_ ?_;rotate_left
              ·exact zqt
              rotate_left
              ·exact zqs
              refine done_ (done_of HT_.out zqk) ?_;try go_wp2
              go_roundg k1
              (case measure=>have:=j8.out;omega);case rel=>exact⟨(wrap64 (a2+1)),(by first|rfl|(simp;done)|(simp [*];done)),H',⟨by have:=j8.out;omega⟩,⟨zr7⟩,⟨zr21⟩,⟨zr22⟩,⟨zr1⟩,⟨zr3⟩⟩
           ·rw [if_neg m7] at H;exact absurd H (by simp)
          ·rw [if_neg m6] at H;exact absurd H (by simp)
         ·rw [if_neg m5] at H;exact absurd H (by simp)
        ·rw [if_neg m4] at H;exact absurd H (by simp)
       ·replace m3:=Bool.eq_false_iff.mpr m3;subst m3;(have H1:((spec_KeepsOk.f k1 a1 a4).bind fun j2=>(if j2=true then((laws_hasInt.f k1 a6 a2).bind fun d7=>(if 0≤a2 then(if a2<(a1.length:Int) then(if 0≤a3 then(if a3<((rd_L3 a1 a2).length:Int) then(if(d7 !=((rd (rd_L3 a1 a2) a3)==1))=true then(some false) else(laws_FnUpToOf.l0 k1 a3 a6 (wrap64 (a2+1)) a1 a4)) else(none)) else(none)) else(none)) else(none))) else(laws_FnUpToOf.l0 k1 a3 a6 (wrap64 (a2+1)) a1 a4)))=some r:=by rw [if_neg (show¬(false=true) by decide)] at H;exact H);clear H;have H:=H1;clear H1;replace H:=Option.bind_eq_some_iff.mp H;obtain⟨j2,r0,H⟩:=H;replace H:(if j2=true then((laws_hasInt.f k1 a6 a2).bind fun d7=>(if 0≤a2 then(if a2<(a1.length:Int) then(if 0≤a3 then(if a3<((rd_L3 a1 a2).length:Int) then(if(d7 !=((rd (rd_L3 a1 a2) a3)==1))=true then(some false) else(laws_FnUpToOf.l0 k1 a3 a6 (wrap64 (a2+1)) a1 a4)) else(none)) else(none)) else(none)) else(none))) else(laws_FnUpToOf.l0 k1 a3 a6 (wrap64 (a2+1)) a1 a4))=some r:=H;have r1:=zqm r0;clear r0
        by_cases m9:j2=true
        ·subst m9;(have H1:((laws_hasInt.f k1 a6 a2).bind fun d7=>(if 0≤a2 then(if a2<(a1.length:Int) then(if 0≤a3 then(if a3<((rd_L3 a1 a2).length:Int) then(if(d7 !=((rd (rd_L3 a1 a2) a3)==1))=true then(some false) else(laws_FnUpToOf.l0 k1 a3 a6 (wrap64 (a2+1)) a1 a4)) else(none)) else(none)) else(none)) else(none)))=some r:=by rw [if_pos rfl] at H;exact H);clear H;have H:=H1;clear H1;replace H:=Option.bind_eq_some_iff.mp H;obtain⟨d7,r2,H⟩:=H;replace H:(if 0≤a2 then(if a2<(a1.length:Int) then(if 0≤a3 then(if a3<((rd_L3 a1 a2).length:Int) then(if(d7 !=((rd (rd_L3 a1 a2) a3)==1))=true then(some false) else(laws_FnUpToOf.l0 k1 a3 a6 (wrap64 (a2+1)) a1 a4)) else(none)) else(none)) else(none)) else(none))=some r:=H;have u2:=zqm r2;clear r2
         by_cases n0:0≤a2
         ·rw [if_pos n0] at H;have a0q:decide (0≤a2)=true:=decide_eq_true n0;clear n0
          by_cases n1:a2<(a1.length:Int)
          ·rw [if_pos n1] at H;have a0r:decide (a2<(a1.length:Int))=true:=decide_eq_true n1;clear n1
           by_cases n2:0≤a3
           ·rw [if_pos n2] at H;have a0s:decide (0≤a3)=true:=decide_eq_true n2;clear n2
            by_cases n3:a3<((rd_L3 a1 a2).length:Int)
            ·rw [if_pos n3] at H;have a0t:decide (a3<((rd_L3 a1 a2).length:Int))=true:=decide_eq_true n3;clear n3
             by_cases i3:(d7 !=((rd (rd_L3 a1 a2) a3)==1))=true
             ·rw [if_pos i3] at H;have s8:(d7 !=((rd (rd_L3 a1 a2) a3)==1))=true:=i3;(try(have s9:decide (d7=((rd (rd_L3 a1 a2) a3)==1))=false:=by simpa using i3));(try(have t0:(d7==((rd (rd_L3 a1 a2) a3)==1))=false:=by simpa using i3));(try(have a0u: ¬(d7=((rd (rd_L3 a1 a2) a3)==1)):=by simpa using i3));clear i3;obtain rfl:=Option.some.inj H;have y6:wr.cell? ⟨a5,0,none⟩=some (.slice c6 a1.length b2):=(blk_cell a0.out 0).trans rfl;have y7:wr.cell? ⟨a5,1,none⟩=some (.slice b1 a4.length a9):=(blk_cell a0.out 1).trans rfl;have y8:=blk_frozen a0.out 0;have y9:=blk_frozen a0.out 1;(try go_wp2);replace HO_5:=zqm (Kd.R_drew HO_5.out);replace HO_924000:=zqm (Kd.S_drew HO_924000.out);replace HO_924001:=zqm (Kd.Q_drew HO_924001.out);replace a0:=zqm (blk_drew a0.out);replace HB:=zqm (below_drew1 HB.out);have h9:0≤(a2:Int):=zqo;have i0:a2<(a1.length:Int):=zqo;obtain⟨g2,k6,k7,m0,f3,h2,h3⟩:=at_L3 (Kd.S_reads' HO_924000.out).2.2 a2 h9 i0
              cases m0
              obtain⟨t1,k8,k9,i4⟩:=Kd.S_get HO_924000.out [] a2 h9 zr68;obtain⟨p3,rfl,f4⟩:=k9;have d4:=i4 0 _ rfl;rw [Nat.add_zero,show ((Kd.slice 3 (Kd.int .i64))).sz=1 from rfl,Nat.mul_one] at d4;replace d4:=Option.some.inj (d4.symm.trans f3);rw [d4] at f4;have d5:=zqm (show Kd.R (Kd.int .i64) 3 _ _ _ _ (rd_L3 a1 a2) from f4);clear d4 f4 i4 k8;have c3:=zqm h3;have p4:=zqm h2;clear h3 h2;replace h9:=eq_true h9;replace i0:=eq_true i0;have i9:0≤(a3:Int):=zqo;have j0:a3<((rd_L3 a1 a2).length:Int):=zqo;obtain⟨l5,m1,j6⟩:=Kd.at_int zr52 a3 i9 j0;refine start_ (n:=33) (S:=fun w'=>w'.cell? ⟨a5,0,none⟩=some (.slice (some g2) a1.length b2)∧w'.cell? ⟨a5,1,none⟩=some (.slice b1 a4.length a9)∧w'.cell? (g2.add (a2).toNat)=some (.slice k6 (rd_L3 a1 a2).length k7)∧w'.cell? (l5.add (a3).toNat)=some (.int .i64 (rd (rd_L3 a1 a2) a3))) (ds:= []) (zqb 33 0) zqk rfl rfl ⟨(blk_cell a0.out 0).trans rfl,(blk_cell a0.out 1).trans rfl,f3,j6⟩ (fun hHeld=>?_);refine with_tabW laws_FnUpToOf.tab12 laws_FnUpToOf.bits12 (fun HT_ HW_=>?_);generalize wr.drew=w63 at HO_5 HO_924000 HO_924001 a0 HB d5 c3 f3 hHeld ⊢;refine pure_ (i:=0) (N:=some 35) (v:=?_) (a':=?_) (zqb 33 1) rfl rfl (any_of HT_.out zqk) (fun _ _ _ h=>h) (Or.inl ⟨by rfl,?_⟩) ?_ ?_;rotate_left
              ·exact zqt
              rotate_left
              ·exact zqs
              refine pure_ (i:=1) (N:=some 36) (v:=?_) (a':=?_) (zqb 33 3) rfl rfl (any_of HT_.out zqk) (fun _ _ _ h=>h) (Or.inl ⟨by rfl,?_⟩) ?_ ?_;rotate_left
              ·exact zqt
              rotate_left
              ·exact zqs
              refine one_ (i:=2) (N:=some 37) (zqb 33 7) rfl rfl (one_of HT_.out zqk) (by decide) (fun K hK=>?_);refine goes_ Try.func48 zqk rfl #[.slice e3 a6.length e4,.int .i64 a2] (by rfl) rfl rfl zr2 ?_;(with_reducible refine(laws_hasInt.calls k1 _ _ a6 a2 false _ ?side1 ?side2 j9.out).mono ?_);(case side1=> exact zr8);(case side2=>exact(Kd.R_reads' HO_5.out).2.1);rintro e w' ⟨rfl,⟨nd,rfl⟩⟩;refine⟨_,rfl,?_⟩;refine hK.out _ _ ⟨(blk_cell a0.out 0).trans rfl,(blk_cell a0.out 1).trans rfl,hHeld.2.2.1,hHeld.2.2.2⟩ (fun hHeld=>?_);clear hK K;refine norm_ (a':=?_) ?_ ?_;rotate_left
              ·show Act.put _ (some 37) _=_;exact zqs
              refine pure_ (i:=3) (N:=some 38) (v:=?_) (a':=?_) (zqb 33 15) rfl rfl (any_of HT_.out zqk) (fun _ _ _ h=>h) (Or.inl ⟨by rfl,?_⟩) ?_ ?_;rotate_left
              ·exact zqt
              rotate_left
              ·exact zqs
              refine pure_ (i:=4) (N:=some 39) (v:=undef) (a':=?_) (zqb 33 31) rfl rfl (any_of HT_.out zqk) (fun _ _ _ h=>h) (Or.inr ⟨by rfl,rfl⟩) ?_ ?_;rotate_left
              ·exact zqs
              refine pure_ (i:=5) (N:=some 40) (v:=undef) (a':=?_) (zqb 33 63) rfl rfl (any_of HT_.out zqk) (fun _ _ _ h=>h) (Or.inr ⟨by rfl,rfl⟩) ?_ ?_;rotate_left
              ·exact zqs
              refine pure_ (i:=6) (N:=some 41) (v:=undef) (a':=?_) (zqb 33 127) rfl rfl (any_of HT_.out zqk) (fun _ _ _ h=>h) (Or.inr ⟨by rfl,rfl⟩) ?_ ?_;rotate_left
              ·exact zqs
              refine pure_ (i:=7) (N:=some 42) (v:=undef) (a':=?_) (zqb 33 255) rfl rfl (any_of HT_.out zqk) (fun _ _ _ h=>h) (Or.inr ⟨by rfl,rfl⟩) ?_ ?_;rotate_left
              ·exact zqs
              refine pure_ (i:=8) (N:=some 43) (v:=undef) (a':=?_) (zqb 33 511) rfl rfl (any_of HT_.out zqk) (fun _ _ _ h=>h) (Or.inr ⟨by rfl,rfl⟩) ?_ ?_;rotate_left
              ·exact zqs
              refine pure_ (i:=9) (N:=some 44) (v:=undef) (a':=?_) (zqb 33 1023) rfl rfl (any_of HT_.out zqk) (fun _ _ _ h=>h) (Or.inr ⟨by rfl,rfl⟩) ?_ ?_;rotate_left
              ·exact zqs
              refine pure_ (i:=10) (N:=some 45) (v:=undef) (a':=?_) (zqb 33 2047) rfl rfl (any_of HT_.out zqk) (fun _ _ _ h=>h) (Or.inr ⟨by rfl,rfl⟩) ?_ ?_;rotate_left
              ·exact zqs
              refine pure_ (i:=11) (N:=some 46) (v:=undef) (a':=?_) (zqb 33 4095) rfl rfl (any_of HT_.out zqk) (fun _ _ _ h=>h) (Or.inr ⟨by rfl,rfl⟩) ?_ ?_;rotate_left
              ·exact zqs
              refine pure_ (i:=12) (N:=some 47) (v:=undef) (a':=?_) (zqb 33 8191) rfl rfl (any_of HT_.out zqk) (fun _ _ _ h=>h) (Or.inr ⟨by rfl,rfl⟩) ?_ ?_;rotate_left
              ·exact zqs
              refine pure_ (i:=13) (N:=some 48) (v:=?_) (a':=?_) (zqb 33 16383) rfl rfl (any_of HT_.out zqk) (fun _ _ _ h=>h) (Or.inl ⟨by rfl,?_⟩) ?_ ?_;rotate_left
              ·exact zqt
              rotate_left
              ·exact zqs
              refine pure_ (i:=14) (N:=some 49) (v:=?_) (a':=?_) (zqb 33 32767) rfl rfl (any_of HT_.out zqk) (fun _ _ _ h=>h) (Or.inl ⟨by rfl,?_⟩) ?_ ?_;rotate_left
              ·exact zqt
              rotate_left
              ·exact zqs
              refine take_ (i:=15) (N:=some 50) (v:=?_) (a':=?_) (zqb 33 65535) rfl rfl (take_ofW HT_.out HW_.out zqk) (fun _ _ _ h=>h) (Or.inl ⟨by rfl,?_⟩) hHeld ?_ ?_;rotate_left
              ·rintro w' ⟨s0,s1,s2,s3⟩;go_simp;with_reducible rfl
              rotate_left
              ·exact zqs
              refine one_ (i:=16) (N:=some 51) (zqb 33 131071) rfl rfl (one_of HT_.out zqk) (by decide) (fun K hK=>?_);refine goes_ Try.func22 zqk rfl #[.agg #[.slice (some g2) a1.length b2,.slice b1 a4.length a9]] (by rfl) rfl rfl zr2 ?_;(with_reducible refine(spec_KeepsOk.calls k1 _ _ a1 _ _ a4 true _ ?side1 ?side2 ?side3 ?side4 r1.out).mono ?_);(case side1=> exact zr19);(case side2=>exact(Kd.S_reads' HO_924000.out).2.1);(case side3=> exact zr20);(case side4=>exact(Kd.Q_reads' HO_924001.out).2.1);rintro e w64 ⟨rfl,hb⟩;have h7:=(hb.cell (World.block_lt_of_cell? _ _ (hHeld.2.2.1))).trans (hHeld.2.2.1);have h8:=(hb.cell (World.block_lt_of_cell? _ _ (hHeld.2.2.2))).trans (hHeld.2.2.2);refine⟨_,rfl,?_⟩
              first|(replace d5:=zqm (Kd.R_below d5.out hb))|(replace d5:=zqm (Kd.R_below (Kd.R_drewN d5.out _) hb))
              first|(replace c3:=zqm (Kd.C_below c3.out hb))|(replace c3:=zqm (Kd.C_below (Kd.C_drewN c3.out _) hb))
              replace HO_5:=zqm (Kd.R_below zr7 hb);replace HO_924000:=zqm (Kd.S_below zr21 hb);replace HO_924001:=zqm (Kd.Q_below zr22 hb);replace a0:=zqm (blk_below (g:=a5) (o:= .cells #[.slice (some g2) a1.length b2,.slice b1 a4.length a9] 30 (0,0)) zr1 hb);replace HB:=zqm (below_step zr3 hb);(try clear hb);(try clear hb2);(try clear hk);(try clear hi);refine hK.out _ _ ⟨(blk_cell a0.out 0).trans rfl,(blk_cell a0.out 1).trans rfl,h7,h8⟩ (fun hHeld=>?_);clear hK K;refine norm_ (a':=?_) ?_ ?_;rotate_left
              ·show Act.put _ (some 51) _=_;exact zqs
              refine pure_ (i:=17) (N:=some 52) (v:=?_) (a':=?_) (zqb 33 262143) rfl rfl (any_of HT_.out zqk) (fun _ _ _ h=>h) (Or.inl ⟨by rfl,?_⟩) ?_ ?_;rotate_left
              ·exact zqt
              rotate_left
              ·exact zqs
              refine pure_ (i:=18) (N:=some 53) (v:=?_) (a':=?_) (zqb 33 524287) rfl rfl (any_of HT_.out zqk) (fun _ _ _ h=>h) (Or.inl ⟨by rfl,?_⟩) ?_ ?_;rotate_left
              ·exact zqt
              rotate_left
              ·exact zqs
              refine pure_ (i:=19) (N:=some 54) (v:=?_) (a':=?_) (zqb 33 1048575) rfl rfl (any_of HT_.out zqk) (fun _ _ _ h=>h) (Or.inl ⟨by rfl,?_⟩) ?_ ?_;rotate_left
              ·exact zqt
              rotate_left
              ·exact zqs
              refine pure_ (i:=21) (N:=some 56) (v:=?_) (a':=?_) (zqb 33 3145727) rfl rfl (any_of HT_.out zqk) (fun _ _ _ h=>h) (Or.inl ⟨by rfl,?_⟩) ?_ ?_;rotate_left
              ·exact zqt
              rotate_left
              ·exact zqs
              refine pure_ (i:=23) (N:=some 58) (v:=?_) (a':=?_) (zqb 33 11534335) rfl rfl (any_of HT_.out zqk) (fun _ _ _ h=>h) (Or.inl ⟨by rfl,?_⟩) ?_ ?_;rotate_left
              ·exact zqt
              rotate_left
              ·exact zqs
              refine pure_ (i:=26) (N:=some 61) (v:=?_) (a':=?_) (zqb 33 78643199) rfl rfl (any_of HT_.out zqk) (fun _ _ _ h=>h) (Or.inl ⟨by rfl,?_⟩) ?_ ?_;rotate_left
              ·exact zqt
              rotate_left
              ·exact zqs
              refine take_ (i:=22) (N:=some 57) (v:=?_) (a':=?_) (zqb 33 82837503) rfl rfl (take_ofW HT_.out HW_.out zqk) (fun _ _ _ h=>h) (Or.inl ⟨by rfl,?_⟩) hHeld ?_ ?_;rotate_left
              ·rintro w' ⟨s0,s1,s2,s3⟩;go_simp;with_reducible rfl
              rotate_left
              ·exact zqs
              refine pure_ (i:=24) (N:=some 59) (v:=?_) (a':=?_) (zqb 33 99614719) rfl rfl (any_of HT_.out zqk) (fun _ _ _ h=>h) (Or.inl ⟨by rfl,?_⟩) ?_ ?_;rotate_left
              ·exact zqt
              rotate_left
              ·exact zqs
              refine take_ (i:=25) (N:=some 60) (v:=?_) (a':=?_) (zqb 33 133169151) rfl rfl (take_ofW HT_.out HW_.out zqk) (fun _ _ _ h=>h) (Or.inl ⟨by rfl,?_⟩) hHeld ?_ ?_;rotate_left
              ·rintro w' ⟨s0,s1,s2,s3⟩;go_simp;with_reducible rfl
              rotate_left
              ·exact zqs
              refine pure_ (i:=27) (N:=some 62) (v:=?_) (a':=?_) (zqb 33 267386879) rfl rfl (any_of HT_.out zqk) (fun _ _ _ h=>h) (Or.inl ⟨by rfl,?_⟩) ?_ ?_;rotate_left
              ·exact zqt
              rotate_left
              ·exact zqs
              refine take_ (i:=28) (N:=some 63) (v:=?_) (a':=?_) (zqb 33 535822335) rfl rfl (take_ofW HT_.out HW_.out zqk) (fun _ _ _ h=>h) (Or.inl ⟨by rfl,?_⟩) hHeld ?_ ?_;rotate_left
              ·rintro w' ⟨s0,s1,s2,s3⟩;go_simp;with_reducible rfl
              rotate_left
              ·exact zqs
              refine pure_ (i:=29) (N:=some 64) (v:=?_) (a':=?_) (zqb 33 1072693247) rfl rfl (any_of HT_.out zqk) (fun _ _ _ h=>h) (Or.inl ⟨by rfl,?_⟩) ?_ ?_;rotate_left
              ·exact zqt
              rotate_left
              ·exact zqs
              refine one_ (i:=20) (N:=some 55) (zqb 33 1073741823) rfl rfl (one_of HT_.out zqk) (by decide) (fun K hK=>?_);refine goes_ Try.func48 zqk rfl #[.slice e3 a6.length e4,.int .i64 a2] (by rfl) rfl rfl zr2 ?_;(with_reducible refine(laws_hasInt.calls k1 _ _ a6 a2 d7 _ ?side1 ?side2 u2.out).mono ?_);(case side1=> exact zr8);(case side2=>exact(Kd.R_reads' HO_5.out).2.1);rintro e w' ⟨rfl,⟨nd,rfl⟩⟩;refine⟨_,rfl,?_⟩
              cases m1
              replace i9:=eq_true i9;replace j0:=eq_true j0;refine hK.out _ _ ⟨(blk_cell a0.out 0).trans rfl,(blk_cell a0.out 1).trans rfl,hHeld.2.2.1,hHeld.2.2.2⟩ (fun hHeld=>?_);clear hK K;refine norm_ (a':=?_) ?_ ?_;rotate_left
              ·show Act.put _ (some 55) _=_;exact zqs
              refine pure_ (i:=30) (N:=some 65) (v:=?_) (a':=?_) (zqb 33 2147483647) rfl rfl (any_of HT_.out zqk) (fun _ _ _ h=>h) (Or.inl ⟨by rfl,?_⟩) ?_ ?_;rotate_left
              ·exact zqt
              rotate_left
              ·exact zqs
              refine pure_ (i:=31) (N:=some 66) (v:=?_) (a':=?_) (zqb 33 4294967295) rfl rfl (any_of HT_.out zqk) (fun _ _ _ h=>h) (Or.inl ⟨by rfl,?_⟩) ?_ ?_;rotate_left
              ·exact zqt
              rotate_left
              ·exact zqs
              refine pure_ (i:=32) (N:=some 67) (v:=?_) (a':=?_) (zqb 33 8589934591) rfl rfl (any_of HT_.out zqk) (fun _ _ _ h=>h) (Or.inl ⟨by rfl,?_⟩) ?_ ?_;rotate_left
              ·exact zqt
              rotate_left
              ·exact zqs
              refine done_ (done_of HT_.out zqk) ?_;try go_wp2
              go_ret
              exact⟨zr12,zr3⟩
             ·rw [if_neg i3] at H;(have s8:(d7 !=((rd (rd_L3 a1 a2) a3)==1))=false:=by simpa using i3);(try(have s9:decide (d7=((rd (rd_L3 a1 a2) a3)==1))=true:=by simpa using i3));(try(have t0:(d7==((rd (rd_L3 a1 a2) a3)==1))=true:=by simpa using i3));clear i3;have H':=zqm H;clear H;have z0:wr.cell? ⟨a5,0,none⟩=some (.slice c6 a1.length b2):=(blk_cell a0.out 0).trans rfl;have z1:wr.cell? ⟨a5,1,none⟩=some (.slice b1 a4.length a9):=(blk_cell a0.out 1).trans rfl;have z2:=blk_frozen a0.out 0;have z3:=blk_frozen a0.out 1;(try go_wp2);replace HO_5:=zqm (Kd.R_drew HO_5.out);replace HO_924000:=zqm (Kd.S_drew HO_924000.out);replace HO_924001:=zqm (Kd.Q_drew HO_924001.out);replace a0:=zqm (blk_drew a0.out);replace HB:=zqm (below_drew1 HB.out);have h9:0≤(a2:Int):=zqo;have i0:a2<(a1.length:Int):=zqo;obtain⟨g2,k6,k7,m0,f3,h2,h3⟩:=at_L3 (Kd.S_reads' HO_924000.out).2.2 a2 h9 i0
              cases m0
              obtain⟨t1,k8,k9,i4⟩:=Kd.S_get HO_924000.out [] a2 h9 zr68;obtain⟨p3,rfl,f4⟩:=k9;have d4:=i4 0 _ rfl;rw [Nat.add_zero,show ((Kd.slice 3 (Kd.int .i64))).sz=1 from rfl,Nat.mul_one] at d4;replace d4:=Option.some.inj (d4.symm.trans f3);rw [d4] at f4;have d5:=zqm (show Kd.R (Kd.int .i64) 3 _ _ _ _ (rd_L3 a1 a2) from f4);clear d4 f4 i4 k8;have c3:=zqm h3;have p4:=zqm h2;clear h3 h2;replace h9:=eq_true h9;replace i0:=eq_true i0;have i9:0≤(a3:Int):=zqo;have j0:a3<((rd_L3 a1 a2).length:Int):=zqo;obtain⟨l5,m1,j6⟩:=Kd.at_int zr52 a3 i9 j0;refine start_ (n:=33) (S:=fun w'=>w'.cell? ⟨a5,0,none⟩=some (.slice (some g2) a1.length b2)∧w'.cell? ⟨a5,1,none⟩=some (.slice b1 a4.length a9)∧w'.cell? (g2.add (a2).toNat)=some (.slice k6 (rd_L3 a1 a2).length k7)∧w'.cell? (l5.add (a3).toNat)=some (.int .i64 (rd (rd_L3 a1 a2) a3))) (ds:= []) (zqb 33 0) zqk rfl rfl ⟨(blk_cell a0.out 0).trans rfl,(blk_cell a0.out 1).trans rfl,f3,j6⟩ (fun hHeld=>?_);refine with_tabW laws_FnUpToOf.tab12 laws_FnUpToOf.bits12 (fun HT_ HW_=>?_);generalize wr.drew=w66 at HO_5 HO_924000 HO_924001 a0 HB d5 c3 f3 hHeld ⊢;refine pure_ (i:=0) (N:=some 35) (v:=?_) (a':=?_) (zqb 33 1) rfl rfl (any_of HT_.out zqk) (fun _ _ _ h=>h) (Or.inl ⟨by rfl,?_⟩) ?_ ?_;rotate_left
              ·exact zqt
              rotate_left
              ·exact zqs
              refine pure_ (i:=1) (N:=some 36) (v:=?_) (a':=?_) (zqb 33 3) rfl rfl (any_of HT_.out zqk) (fun _ _ _ h=>h) (Or.inl ⟨by rfl,?_⟩) ?_ ?_;rotate_left
              ·exact zqt
              rotate_left
              ·exact zqs
              refine one_ (i:=2) (N:=some 37) (zqb 33 7) rfl rfl (one_of HT_.out zqk) (by decide) (fun K hK=>?_);refine goes_ Try.func48 zqk rfl #[.slice e3 a6.length e4,.int .i64 a2] (by rfl) rfl rfl zr2 ?_;(with_reducible refine(laws_hasInt.calls k1 _ _ a6 a2 false _ ?side1 ?side2 j9.out).mono ?_);(case side1=> exact zr8);(case side2=>exact(Kd.R_reads' HO_5.out).2.1);rintro e w' ⟨rfl,⟨nd,rfl⟩⟩;refine⟨_,rfl,?_⟩;refine hK.out _ _ ⟨(blk_cell a0.out 0).trans rfl,(blk_cell a0.out 1).trans rfl,hHeld.2.2.1,hHeld.2.2.2⟩ (fun hHeld=>?_);clear hK K;refine norm_ (a':=?_) ?_ ?_;rotate_left
              ·show Act.put _ (some 37) _=_;exact zqs
              refine pure_ (i:=3) (N:=some 38) (v:=?_) (a':=?_) (zqb 33 15) rfl rfl (any_of HT_.out zqk) (fun _ _ _ h=>h) (Or.inl ⟨by rfl,?_⟩) ?_ ?_;rotate_left
              ·exact zqt
              rotate_left
              ·exact zqs
              refine pure_ (i:=4) (N:=some 39) (v:=undef) (a':=?_) (zqb 33 31) rfl rfl (any_of HT_.out zqk) (fun _ _ _ h=>h) (Or.inr ⟨by rfl,rfl⟩) ?_ ?_;rotate_left
              ·exact zqs
              refine pure_ (i:=5) (N:=some 40) (v:=undef) (a':=?_) (zqb 33 63) rfl rfl (any_of HT_.out zqk) (fun _ _ _ h=>h) (Or.inr ⟨by rfl,rfl⟩) ?_ ?_;rotate_left
              ·exact zqs
              refine pure_ (i:=6) (N:=some 41) (v:=undef) (a':=?_) (zqb 33 127) rfl rfl (any_of HT_.out zqk) (fun _ _ _ h=>h) (Or.inr ⟨by rfl,rfl⟩) ?_ ?_;rotate_left
              ·exact zqs
              refine pure_ (i:=7) (N:=some 42) (v:=undef) (a':=?_) (zqb 33 255) rfl rfl (any_of HT_.out zqk) (fun _ _ _ h=>h) (Or.inr ⟨by rfl,rfl⟩) ?_ ?_;rotate_left
              ·exact zqs
              refine pure_ (i:=8) (N:=some 43) (v:=undef) (a':=?_) (zqb 33 511) rfl rfl (any_of HT_.out zqk) (fun _ _ _ h=>h) (Or.inr ⟨by rfl,rfl⟩) ?_ ?_;rotate_left
              ·exact zqs
              refine pure_ (i:=9) (N:=some 44) (v:=undef) (a':=?_) (zqb 33 1023) rfl rfl (any_of HT_.out zqk) (fun _ _ _ h=>h) (Or.inr ⟨by rfl,rfl⟩) ?_ ?_;rotate_left
              ·exact zqs
              refine pure_ (i:=10) (N:=some 45) (v:=undef) (a':=?_) (zqb 33 2047) rfl rfl (any_of HT_.out zqk) (fun _ _ _ h=>h) (Or.inr ⟨by rfl,rfl⟩) ?_ ?_;rotate_left
              ·exact zqs
              refine pure_ (i:=11) (N:=some 46) (v:=undef) (a':=?_) (zqb 33 4095) rfl rfl (any_of HT_.out zqk) (fun _ _ _ h=>h) (Or.inr ⟨by rfl,rfl⟩) ?_ ?_;rotate_left
              ·exact zqs
              refine pure_ (i:=12) (N:=some 47) (v:=undef) (a':=?_) (zqb 33 8191) rfl rfl (any_of HT_.out zqk) (fun _ _ _ h=>h) (Or.inr ⟨by rfl,rfl⟩) ?_ ?_;rotate_left
              ·exact zqs
              refine pure_ (i:=13) (N:=some 48) (v:=?_) (a':=?_) (zqb 33 16383) rfl rfl (any_of HT_.out zqk) (fun _ _ _ h=>h) (Or.inl ⟨by rfl,?_⟩) ?_ ?_;rotate_left
              ·exact zqt
              rotate_left
              ·exact zqs
              refine pure_ (i:=14) (N:=some 49) (v:=?_) (a':=?_) (zqb 33 32767) rfl rfl (any_of HT_.out zqk) (fun _ _ _ h=>h) (Or.inl ⟨by rfl,?_⟩) ?_ ?_;rotate_left
              ·exact zqt
              rotate_left
              ·exact zqs
              refine take_ (i:=15) (N:=some 50) (v:=?_) (a':=?_) (zqb 33 65535) rfl rfl (take_ofW HT_.out HW_.out zqk) (fun _ _ _ h=>h) (Or.inl ⟨by rfl,?_⟩) hHeld ?_ ?_;rotate_left
              ·rintro w' ⟨s0,s1,s2,s3⟩;go_simp;with_reducible rfl
              rotate_left
              ·exact zqs
              refine one_ (i:=16) (N:=some 51) (zqb 33 131071) rfl rfl (one_of HT_.out zqk) (by decide) (fun K hK=>?_);refine goes_ Try.func22 zqk rfl #[.agg #[.slice (some g2) a1.length b2,.slice b1 a4.length a9]] (by rfl) rfl rfl zr2 ?_;(with_reducible refine(spec_KeepsOk.calls k1 _ _ a1 _ _ a4 true _ ?side1 ?side2 ?side3 ?side4 r1.out).mono ?_);(case side1=> exact zr19);(case side2=>exact(Kd.S_reads' HO_924000.out).2.1);(case side3=> exact zr20);(case side4=>exact(Kd.Q_reads' HO_924001.out).2.1);rintro e w67 ⟨rfl,hb⟩;have h7:=(hb.cell (World.block_lt_of_cell? _ _ (hHeld.2.2.1))).trans (hHeld.2.2.1);have h8:=(hb.cell (World.block_lt_of_cell? _ _ (hHeld.2.2.2))).trans (hHeld.2.2.2);refine⟨_,rfl,?_⟩
              first|(replace d5:=zqm (Kd.R_below d5.out hb))|(replace d5:=zqm (Kd.R_below (Kd.R_drewN d5.out _) hb))
              first|(replace c3:=zqm (Kd.C_below c3.out hb))|(replace c3:=zqm (Kd.C_below (Kd.C_drewN c3.out _) hb))
              replace HO_5:=zqm (Kd.R_below zr7 hb);replace HO_924000:=zqm (Kd.S_below zr21 hb);replace HO_924001:=zqm (Kd.Q_below zr22 hb);replace a0:=zqm (blk_below (g:=a5) (o:= .cells #[.slice (some g2) a1.length b2,.slice b1 a4.length a9] 30 (0,0)) zr1 hb);replace HB:=zqm (below_step zr3 hb);(try clear hb);(try clear hb2);(try clear hk);(try clear hi);refine hK.out _ _ ⟨(blk_cell a0.out 0).trans rfl,(blk_cell a0.out 1).trans rfl,h7,h8⟩ (fun hHeld=>?_);clear hK K;refine norm_ (a':=?_) ?_ ?_;rotate_left
              ·show Act.put _ (some 51) _=_;exact zqs
              refine pure_ (i:=17) (N:=some 52) (v:=?_) (a':=?_) (zqb 33 262143) rfl rfl (any_of HT_.out zqk) (fun _ _ _ h=>h) (Or.inl ⟨by rfl,?_⟩) ?_ ?_;rotate_left
              ·exact zqt
              rotate_left
              ·exact zqs
              refine pure_ (i:=18) (N:=some 53) (v:=?_) (a':=?_) (zqb 33 524287) rfl rfl (any_of HT_.out zqk) (fun _ _ _ h=>h) (Or.inl ⟨by rfl,?_⟩) ?_ ?_;rotate_left
              ·exact zqt
              rotate_left
              ·exact zqs
              refine pure_ (i:=19) (N:=some 54) (v:=?_) (a':=?_) (zqb 33 1048575) rfl rfl (any_of HT_.out zqk) (fun _ _ _ h=>h) (Or.inl ⟨by rfl,?_⟩) ?_ ?_;rotate_left
              ·exact zqt
              rotate_left
              ·exact zqs
              refine pure_ (i:=21) (N:=some 56) (v:=?_) (a':=?_) (zqb 33 3145727) rfl rfl (any_of HT_.out zqk) (fun _ _ _ h=>h) (Or.inl ⟨by rfl,?_⟩) ?_ ?_;rotate_left
              ·exact zqt
              rotate_left
              ·exact zqs
              refine pure_ (i:=23) (N:=some 58) (v:=?_) (a':=?_) (zqb 33 11534335) rfl rfl (any_of HT_.out zqk) (fun _ _ _ h=>h) (Or.inl ⟨by rfl,?_⟩) ?_ ?_;rotate_left
              ·exact zqt
              rotate_left
              ·exact zqs
              refine pure_ (i:=26) (N:=some 61) (v:=?_) (a':=?_) (zqb 33 78643199) rfl rfl (any_of HT_.out zqk) (fun _ _ _ h=>h) (Or.inl ⟨by rfl,?_⟩) ?_ ?_;rotate_left
              ·exact zqt
              rotate_left
              ·exact zqs
              refine take_ (i:=22) (N:=some 57) (v:=?_) (a':=?_) (zqb 33 82837503) rfl rfl (take_ofW HT_.out HW_.out zqk) (fun _ _ _ h=>h) (Or.inl ⟨by rfl,?_⟩) hHeld ?_ ?_;rotate_left
              ·rintro w' ⟨s0,s1,s2,s3⟩;go_simp;with_reducible rfl
              rotate_left
              ·exact zqs
              refine pure_ (i:=24) (N:=some 59) (v:=?_) (a':=?_) (zqb 33 99614719) rfl rfl (any_of HT_.out zqk) (fun _ _ _ h=>h) (Or.inl ⟨by rfl,?_⟩) ?_ ?_;rotate_left
              ·exact zqt
              rotate_left
              ·exact zqs
              refine take_ (i:=25) (N:=some 60) (v:=?_) (a':=?_) (zqb 33 133169151) rfl rfl (take_ofW HT_.out HW_.out zqk) (fun _ _ _ h=>h) (Or.inl ⟨by rfl,?_⟩) hHeld ?_ ?_;rotate_left
              ·rintro w' ⟨s0,s1,s2,s3⟩;go_simp;with_reducible rfl
              rotate_left
              ·exact zqs
              refine pure_ (i:=27) (N:=some 62) (v:=?_) (a':=?_) (zqb 33 267386879) rfl rfl (any_of HT_.out zqk) (fun _ _ _ h=>h) (Or.inl ⟨by rfl,?_⟩) ?_ ?_;rotate_left
              ·exact zqt
              rotate_left
              ·exact zqs
              refine take_ (i:=28) (N:=some 63) (v:=?_) (a':=?_) (zqb 33 535822335) rfl rfl (take_ofW HT_.out HW_.out zqk) (fun _ _ _ h=>h) (Or.inl ⟨by rfl,?_⟩) hHeld ?_ ?_;rotate_left
              ·rintro w' ⟨s0,s1,s2,s3⟩;go_simp;with_reducible rfl
              rotate_left
              ·exact zqs
              refine pure_ (i:=29) (N:=some 64) (v:=?_) (a':=?_) (zqb 33 1072693247) rfl rfl (any_of HT_.out zqk) (fun _ _ _ h=>h) (Or.inl ⟨by rfl,?_⟩) ?_ ?_;rotate_left
              ·exact zqt
              rotate_left
              ·exact zqs
              refine one_ (i:=20) (N:=some 55) (zqb 33 1073741823) rfl rfl (one_of HT_.out zqk) (by decide) (fun K hK=>?_);refine goes_ Try.func48 zqk rfl #[.slice e3 a6.length e4,.int .i64 a2] (by rfl) rfl rfl zr2 ?_;(with_reducible refine(laws_hasInt.calls k1 _ _ a6 a2 d7 _ ?side1 ?side2 u2.out).mono ?_);(case side1=> exact zr8);(case side2=>exact(Kd.R_reads' HO_5.out).2.1);rintro e w' ⟨rfl,⟨nd,rfl⟩⟩;refine⟨_,rfl,?_⟩
              cases m1
              replace i9:=eq_true i9;replace j0:=eq_true j0;refine hK.out _ _ ⟨(blk_cell a0.out 0).trans rfl,(blk_cell a0.out 1).trans rfl,hHeld.2.2.1,hHeld.2.2.2⟩ (fun hHeld=>?_);clear hK K;refine norm_ (a':=?_) ?_ ?_;rotate_left
              ·show Act.put _ (some 55) _=_;exact zqs
              refine pure_ (i:=30) (N:=some 65) (v:=?_) (a':=?_) (zqb 33 2147483647) rfl rfl (any_of HT_.out zqk) (fun _ _ _ h=>h) (Or.inl ⟨by rfl,?_⟩) ?_ ?_;rotate_left
              ·exact zqt
              rotate_left
              ·exact zqs
              refine pure_ (i:=31) (N:=some 66) (v:=?_) (a':=?_) (zqb 33 4294967295) rfl rfl (any_of HT_.out zqk) (fun _ _ _ h=>h) (Or.inl ⟨by rfl,?_⟩) ?_ ?_;rotate_left
              ·exact zqt
              rotate_left
              ·exact zqs
              refine pure_ (i:=32) (N:=some 67) (v:=?_) (a':=?_) (zqb 33 8589934591) rfl rfl (any_of HT_.out zqk) (fun _ _ _ h=>h) (Or.inl ⟨by rfl,?_⟩) ?_ ?_;rotate_left
              ·exact zqt
              rotate_left
              ·exact zqs
              refine done_ (done_of HT_.out zqk) ?_;try go_wp2
              go_roundg k1
              (case measure=>have:=j8.out;omega);case rel=>exact⟨(wrap64 (a2+1)),(by first|rfl|(simp;done)|(simp [*];done)),H',⟨by have:=j8.out;omega⟩,⟨zr7⟩,⟨zr21⟩,⟨zr22⟩,⟨zr1⟩,⟨zr3⟩⟩
            ·rw [if_neg n3] at H;exact absurd H (by simp)
           ·rw [if_neg n2] at H;exact absurd H (by simp)
          ·rw [if_neg n1] at H;exact absurd H (by simp)
         ·rw [if_neg n0] at H;exact absurd H (by simp)
        ·replace m9:=Bool.eq_false_iff.mpr m9;subst m9;(have H1:(laws_FnUpToOf.l0 k1 a3 a6 (wrap64 (a2+1)) a1 a4)=some r:=by rw [if_neg (show¬(false=true) by decide)] at H;exact H);clear H;have H:=H1;clear H1;have H':=zqm H;clear H;have z4:wr.cell? ⟨a5,0,none⟩=some (.slice c6 a1.length b2):=(blk_cell a0.out 0).trans rfl;have z5:wr.cell? ⟨a5,1,none⟩=some (.slice b1 a4.length a9):=(blk_cell a0.out 1).trans rfl;have z6:=blk_frozen a0.out 0;have z7:=blk_frozen a0.out 1;(try go_wp2);replace HO_5:=zqm (Kd.R_drew HO_5.out);replace HO_924000:=zqm (Kd.S_drew HO_924000.out);replace HO_924001:=zqm (Kd.Q_drew HO_924001.out);replace a0:=zqm (blk_drew a0.out);replace HB:=zqm (below_drew1 HB.out);refine start_ (n:=33) (S:=fun w'=>w'.cell? ⟨a5,0,none⟩=some (.slice c6 a1.length b2)∧w'.cell? ⟨a5,1,none⟩=some (.slice b1 a4.length a9)) (ds:= []) (zqb 33 0) zqk rfl rfl ⟨(blk_cell a0.out 0).trans rfl,(blk_cell a0.out 1).trans rfl⟩ (fun hHeld=>?_);refine with_tabW laws_FnUpToOf.tab12 laws_FnUpToOf.bits12 (fun HT_ HW_=>?_);generalize wr.drew=w69 at HO_5 HO_924000 HO_924001 a0 HB hHeld ⊢;refine pure_ (i:=0) (N:=some 35) (v:=?_) (a':=?_) (zqb 33 1) rfl rfl (any_of HT_.out zqk) (fun _ _ _ h=>h) (Or.inl ⟨by rfl,?_⟩) ?_ ?_;rotate_left
         ·exact zqt
         rotate_left
         ·exact zqs
         refine pure_ (i:=1) (N:=some 36) (v:=?_) (a':=?_) (zqb 33 3) rfl rfl (any_of HT_.out zqk) (fun _ _ _ h=>h) (Or.inl ⟨by rfl,?_⟩) ?_ ?_;rotate_left
         ·exact zqt
         rotate_left
         ·exact zqs
         refine one_ (i:=2) (N:=some 37) (zqb 33 7) rfl rfl (one_of HT_.out zqk) (by decide) (fun K hK=>?_);refine goes_ Try.func48 zqk rfl #[.slice e3 a6.length e4,.int .i64 a2] (by rfl) rfl rfl zr2 ?_;(with_reducible refine(laws_hasInt.calls k1 _ _ a6 a2 false _ ?side1 ?side2 j9.out).mono ?_);(case side1=> exact zr8);(case side2=>exact(Kd.R_reads' HO_5.out).2.1);rintro e w' ⟨rfl,⟨nd,rfl⟩⟩;refine⟨_,rfl,?_⟩;refine hK.out _ _ ⟨(blk_cell a0.out 0).trans rfl,(blk_cell a0.out 1).trans rfl⟩ (fun hHeld=>?_);clear hK K;refine norm_ (a':=?_) ?_ ?_;rotate_left
         ·show Act.put _ (some 37) _=_;exact zqs
         refine pure_ (i:=3) (N:=some 38) (v:=?_) (a':=?_) (zqb 33 15) rfl rfl (any_of HT_.out zqk) (fun _ _ _ h=>h) (Or.inl ⟨by rfl,?_⟩) ?_ ?_;rotate_left
         ·exact zqt
         rotate_left
         ·exact zqs
         refine pure_ (i:=4) (N:=some 39) (v:=undef) (a':=?_) (zqb 33 31) rfl rfl (any_of HT_.out zqk) (fun _ _ _ h=>h) (Or.inr ⟨by rfl,rfl⟩) ?_ ?_;rotate_left
         ·exact zqs
         refine pure_ (i:=5) (N:=some 40) (v:=undef) (a':=?_) (zqb 33 63) rfl rfl (any_of HT_.out zqk) (fun _ _ _ h=>h) (Or.inr ⟨by rfl,rfl⟩) ?_ ?_;rotate_left
         ·exact zqs
         refine pure_ (i:=6) (N:=some 41) (v:=undef) (a':=?_) (zqb 33 127) rfl rfl (any_of HT_.out zqk) (fun _ _ _ h=>h) (Or.inr ⟨by rfl,rfl⟩) ?_ ?_;rotate_left
         ·exact zqs
         refine pure_ (i:=7) (N:=some 42) (v:=undef) (a':=?_) (zqb 33 255) rfl rfl (any_of HT_.out zqk) (fun _ _ _ h=>h) (Or.inr ⟨by rfl,rfl⟩) ?_ ?_;rotate_left
         ·exact zqs
         refine pure_ (i:=8) (N:=some 43) (v:=undef) (a':=?_) (zqb 33 511) rfl rfl (any_of HT_.out zqk) (fun _ _ _ h=>h) (Or.inr ⟨by rfl,rfl⟩) ?_ ?_;rotate_left
         ·exact zqs
         refine pure_ (i:=9) (N:=some 44) (v:=undef) (a':=?_) (zqb 33 1023) rfl rfl (any_of HT_.out zqk) (fun _ _ _ h=>h) (Or.inr ⟨by rfl,rfl⟩) ?_ ?_;rotate_left
         ·exact zqs
         refine pure_ (i:=10) (N:=some 45) (v:=undef) (a':=?_) (zqb 33 2047) rfl rfl (any_of HT_.out zqk) (fun _ _ _ h=>h) (Or.inr ⟨by rfl,rfl⟩) ?_ ?_;rotate_left
         ·exact zqs
         refine pure_ (i:=11) (N:=some 46) (v:=undef) (a':=?_) (zqb 33 4095) rfl rfl (any_of HT_.out zqk) (fun _ _ _ h=>h) (Or.inr ⟨by rfl,rfl⟩) ?_ ?_;rotate_left
         ·exact zqs
         refine pure_ (i:=12) (N:=some 47) (v:=undef) (a':=?_) (zqb 33 8191) rfl rfl (any_of HT_.out zqk) (fun _ _ _ h=>h) (Or.inr ⟨by rfl,rfl⟩) ?_ ?_;rotate_left
         ·exact zqs
         refine pure_ (i:=13) (N:=some 48) (v:=?_) (a':=?_) (zqb 33 16383) rfl rfl (any_of HT_.out zqk) (fun _ _ _ h=>h) (Or.inl ⟨by rfl,?_⟩) ?_ ?_;rotate_left
         ·exact zqt
         rotate_left
         ·exact zqs
         refine pure_ (i:=14) (N:=some 49) (v:=?_) (a':=?_) (zqb 33 32767) rfl rfl (any_of HT_.out zqk) (fun _ _ _ h=>h) (Or.inl ⟨by rfl,?_⟩) ?_ ?_;rotate_left
         ·exact zqt
         rotate_left
         ·exact zqs
         refine take_ (i:=15) (N:=some 50) (v:=?_) (a':=?_) (zqb 33 65535) rfl rfl (take_ofW HT_.out HW_.out zqk) (fun _ _ _ h=>h) (Or.inl ⟨by rfl,?_⟩) hHeld ?_ ?_;rotate_left
         ·rintro w' ⟨s0,s1⟩;go_simp;with_reducible rfl
         rotate_left
         ·exact zqs
         refine one_ (i:=16) (N:=some 51) (zqb 33 131071) rfl rfl (one_of HT_.out zqk) (by decide) (fun K hK=>?_);refine goes_ Try.func22 zqk rfl #[.agg #[.slice c6 a1.length b2,.slice b1 a4.length a9]] (by rfl) rfl rfl zr2 ?_;(with_reducible refine(spec_KeepsOk.calls k1 _ _ a1 _ _ a4 false _ ?side1 ?side2 ?side3 ?side4 r1.out).mono ?_);(case side1=> exact zr19);(case side2=>exact(Kd.S_reads' HO_924000.out).2.1);(case side3=> exact zr20);(case side4=>exact(Kd.Q_reads' HO_924001.out).2.1);rintro e w70 ⟨rfl,hb⟩;refine⟨_,rfl,?_⟩;replace HO_5:=zqm (Kd.R_below zr7 hb);replace HO_924000:=zqm (Kd.S_below zr21 hb);replace HO_924001:=zqm (Kd.Q_below zr22 hb);replace a0:=zqm (blk_below (g:=a5) (o:= .cells #[.slice c6 a1.length b2,.slice b1 a4.length a9] 30 (0,0)) zr1 hb);replace HB:=zqm (below_step zr3 hb);clear hb;refine hK.out _ _ ⟨(blk_cell a0.out 0).trans rfl,(blk_cell a0.out 1).trans rfl⟩ (fun hHeld=>?_);clear hK K;refine norm_ (a':=?_) ?_ ?_;rotate_left
         ·show Act.put _ (some 51) _=_;exact zqs
         refine pure_ (i:=17) (N:=some 52) (v:=?_) (a':=?_) (zqb 33 262143) rfl rfl (any_of HT_.out zqk) (fun _ _ _ h=>h) (Or.inl ⟨by rfl,?_⟩) ?_ ?_;rotate_left
         ·exact zqt
         rotate_left
         ·exact zqs
         refine pure_ (i:=18) (N:=some 53) (v:=undef) (a':=?_) (zqb 33 524287) rfl rfl (any_of HT_.out zqk) (fun _ _ _ h=>h) (Or.inr ⟨by rfl,rfl⟩) ?_ ?_;rotate_left
         ·exact zqs
         refine pure_ (i:=19) (N:=some 54) (v:=undef) (a':=?_) (zqb 33 1048575) rfl rfl (any_of HT_.out zqk) (fun _ _ _ h=>h) (Or.inr ⟨by rfl,rfl⟩) ?_ ?_;rotate_left
         ·exact zqs
         refine pure_ (i:=20) (N:=some 55) (v:=undef) (a':=?_) (zqb 33 2097151) rfl rfl (any_of HT_.out zqk) (fun _ _ _ h=>h) (Or.inr ⟨by rfl,rfl⟩) ?_ ?_;rotate_left
         ·exact zqs
         refine pure_ (i:=21) (N:=some 56) (v:=undef) (a':=?_) (zqb 33 4194303) rfl rfl (any_of HT_.out zqk) (fun _ _ _ h=>h) (Or.inr ⟨by rfl,rfl⟩) ?_ ?_;rotate_left
         ·exact zqs
         refine pure_ (i:=22) (N:=some 57) (v:=undef) (a':=?_) (zqb 33 8388607) rfl rfl (any_of HT_.out zqk) (fun _ _ _ h=>h) (Or.inr ⟨by rfl,rfl⟩) ?_ ?_;rotate_left
         ·exact zqs
         refine pure_ (i:=23) (N:=some 58) (v:=undef) (a':=?_) (zqb 33 16777215) rfl rfl (any_of HT_.out zqk) (fun _ _ _ h=>h) (Or.inr ⟨by rfl,rfl⟩) ?_ ?_;rotate_left
         ·exact zqs
         refine pure_ (i:=24) (N:=some 59) (v:=undef) (a':=?_) (zqb 33 33554431) rfl rfl (any_of HT_.out zqk) (fun _ _ _ h=>h) (Or.inr ⟨by rfl,rfl⟩) ?_ ?_;rotate_left
         ·exact zqs
         refine pure_ (i:=25) (N:=some 60) (v:=undef) (a':=?_) (zqb 33 67108863) rfl rfl (any_of HT_.out zqk) (fun _ _ _ h=>h) (Or.inr ⟨by rfl,rfl⟩) ?_ ?_;rotate_left
         ·exact zqs
         refine pure_ (i:=26) (N:=some 61) (v:=undef) (a':=?_) (zqb 33 134217727) rfl rfl (any_of HT_.out zqk) (fun _ _ _ h=>h) (Or.inr ⟨by rfl,rfl⟩) ?_ ?_;rotate_left
         ·exact zqs
         refine pure_ (i:=27) (N:=some 62) (v:=undef) (a':=?_) (zqb 33 268435455) rfl rfl (any_of HT_.out zqk) (fun _ _ _ h=>h) (Or.inr ⟨by rfl,rfl⟩) ?_ ?_;rotate_left
         ·exact zqs
         refine pure_ (i:=28) (N:=some 63) (v:=undef) (a':=?_) (zqb 33 536870911) rfl rfl (any_of HT_.out zqk) (fun _ _ _ h=>h) (Or.inr ⟨by rfl,rfl⟩) ?_ ?_;rotate_left
         ·exact zqs
         refine pure_ (i:=29) (N:=some 64) (v:=undef) (a':=?_) (zqb 33 1073741823) rfl rfl (any_of HT_.out zqk) (fun _ _ _ h=>h) (Or.inr ⟨by rfl,rfl⟩) ?_ ?_;rotate_left
         ·exact zqs
         refine pure_ (i:=30) (N:=some 65) (v:=undef) (a':=?_) (zqb 33 2147483647) rfl rfl (any_of HT_.out zqk) (fun _ _ _ h=>h) (Or.inr ⟨by rfl,rfl⟩) ?_ ?_;rotate_left
         ·exact zqs
         refine pure_ (i:=31) (N:=some 66) (v:=?_) (a':=?_) (zqb 33 4294967295) rfl rfl (any_of HT_.out zqk) (fun _ _ _ h=>h) (Or.inl ⟨by rfl,?_⟩) ?_ ?_;rotate_left
         ·exact zqt
         rotate_left
         ·exact zqs
         refine pure_ (i:=32) (N:=some 67) (v:=?_) (a':=?_) (zqb 33 8589934591) rfl rfl (any_of HT_.out zqk) (fun _ _ _ h=>h) (Or.inl ⟨by rfl,?_⟩) ?_ ?_;rotate_left
         ·exact zqt
         rotate_left
         ·exact zqs
         refine done_ (done_of HT_.out zqk) ?_;try go_wp2
         go_roundg k1
         (case measure=>have:=j8.out;omega);case rel=>exact⟨(wrap64 (a2+1)),(by first|rfl|(simp;done)|(simp [*];done)),H',⟨by have:=j8.out;omega⟩,⟨zr7⟩,⟨zr21⟩,⟨zr22⟩,⟨zr1⟩,⟨zr3⟩⟩
      ·rw [if_neg l1] at H;have r5:decide (a2<(a4.length:Int))=false:=decide_eq_false l1;clear l1;replace H:=Option.bind_eq_some_iff.mp H;obtain⟨r3,r4,H⟩:=H;replace H:(some r3)=some r:=H;have A71:=zqm r4;clear r4;obtain rfl:=Option.some.inj H;have z8:wr.cell? ⟨a5,0,none⟩=some (.slice c6 a1.length b2):=(blk_cell a0.out 0).trans rfl;have z9:wr.cell? ⟨a5,1,none⟩=some (.slice b1 a4.length a9):=(blk_cell a0.out 1).trans rfl;have a0a:=blk_frozen a0.out 0;have a0b:=blk_frozen a0.out 1
       go_wp2_with (first|((with_reducible refine gate_callee (f:=54) rfl ?_);refine goesL_ (some 69) rfl rfl Try.func54 zqk rfl #[.slice e3 a6.length e4] rfl zr2 ?_;(with_reducible refine(laws_ascend.calls k1 _ _ a6 r3 _ ?side1 ?side2 A71.out).mono ?_);(case side1=> exact zr8);(case side2=>exact(Kd.R_reads' HO_5.out).2.1);rintro e w' ⟨rfl,⟨nd,rfl⟩⟩;refine⟨_,rfl,?_⟩))
       go_ret
       exact⟨zr12,zr3⟩
  ·replace c7:=Bool.eq_false_iff.mpr c7;subst c7;(have H1:(some false)=some r:=by rw [if_neg (show¬(false=true) by decide)] at H;exact H);clear H;have H:=H1;clear H1;obtain rfl:=Option.some.inj H
   go_enter Try.func10,Try.ntmps10
   go_wp2_with (first|((with_reducible refine gate_callee (f:=50) rfl ?_);refine goesL_ (some 12) rfl rfl Try.func50 zqk rfl #[.slice A0 l0.length c0] rfl zr2 ?_;(with_reducible refine(spec_DrawUpToOf.calls k _ _ l0 a1 a4 a3 _ ?side1 ?side2 A3.out).mono ?_);(case side1=> exact zr46);(case side2=>exact p6.out);rintro e w73 ⟨q1,q2,rfl,b6,j7,hb⟩;refine⟨_,rfl,?_⟩;have a8:=zqm (Kd.S_lower b6 (below_size zr0));have a7:=zqm (Kd.Q_lower j7 (below_size zr0));replace HB:=zqm (below_step zr0 hb);clear hb b6 j7)|((with_reducible refine gate_dst (N:=3) rfl ?_);refine box_event ?hg (N:=3) ?hd (cs:= #[.slice none 0 0,.slice none 0 0]) (t:=30) ?hr ?_;(case hd=>rfl);(case hg=>rfl);(case hr=>first|(go_simp;done)|(go_simp;rfl));intro a5 hg u3 hbox hb;replace a8:=zqm (Kd.S_below zr31 hb);replace a7:=zqm (Kd.Q_below zr24 hb);have f5:=zqm (below_step zr0 hb);have a0:=zqm (hbox);have m2:=zqm ((by rw [hg];exact(below_size zr0):w.heap.size≤a5));have b4:=zqm ((by rw [hg];exact(below_size zr0):w.heap.size≤a5));clear HB;have HB:=f5;clear f5 hb hbox hg;obtain⟨g7,f9,w2⟩:=Kd.S_slice a8.out;subst w2;have a0c:u3.cell? ⟨a5,0,none⟩=some (.slice none 0 0):=(blk_cell a0.out 0).trans rfl;have a0d:u3.cell? ⟨a5,1,none⟩=some (.slice none 0 0):=(blk_cell a0.out 1).trans rfl;have a0e:=blk_frozen a0.out 0;have a0f:=blk_frozen a0.out 1;obtain⟨g8,g0,w3,_⟩:=Kd.Q_slice a7.out;subst w3)|((with_reducible refine gate_callee (f:=51) rfl ?_);refine goesL_ (some 17) rfl rfl Try.func51 zqk rfl #[.agg #[.slice g7 a1.length f9,.slice g8 a4.length g0],.int .i64 a3] rfl zr2 ?_;(with_reducible refine(impl_UpToOf.calls _ _ a1 _ _ a4 a3 a6 _ ?side1 ?side2 ?side3 ?side4 A4.out).mono ?_);(case side1=>refine(Kd.S_reads' (e:=28) (base:=w.heap.size) (ok:=fun k_=>some k_≠(.slice g8 a4.length g0:Value).ownBlock) (n:=a1.length) (c:=f9) ?_).2.2;exact zr34);(case side2=>exact(Kd.S_reads' a8.out).2.1);(case side3=>refine(Kd.Q_reads' (e:=3) (base:=w.heap.size) (ok:=fun k_=>True) (n:=a4.length) (c:=g0) ?_).2.2;exact zr25);(case side4=>exact(Kd.Q_reads' a7.out).2.1);rintro e u4 ⟨q3,rfl,b6,hb⟩;refine⟨_,rfl,?_⟩;replace a8:=zqm (Kd.S_elder' zr34 (Kd.R_base b6) hb);have f6:=zqm (Kd.Q_elder' zr25 (Kd.R_base b6) hb);have b5:=zqm (Kd.R_lower (Kd.R_new' b6 (Kd.Q_lt zr25)) (below_size zr3));replace a0:=zqm (blk_below (g:=a5) (o:= .cells #[.slice g7 a1.length f9,.slice g8 a4.length g0] 30 (0,0)) (by(with_reducible repeat(first|refine blk_drewN ?_ _|refine blk_drew ?_|refine blk_alloc ?_ _));refine blk_put (cs:= #[.slice g7 a1.length f9,.slice none 0 0]) ?_ 1 _ rfl;(with_reducible repeat(first|refine blk_drewN ?_ _|refine blk_drew ?_|refine blk_alloc ?_ _));refine blk_put (cs:= #[.slice none 0 0,.slice none 0 0]) ?_ 0 _ rfl;(with_reducible repeat(first|refine blk_drewN ?_ _|refine blk_drew ?_|refine blk_alloc ?_ _));exact a0.out) hb);replace HB:=zqm (below_step zr3 hb);clear a7;have a7:=f6;clear f6 hb b6;have a0g:u4.cell? ⟨a5,0,none⟩=some (.slice g7 a1.length f9):=(blk_cell a0.out 0).trans rfl;have a0h:u4.cell? ⟨a5,1,none⟩=some (.slice g8 a4.length g0):=(blk_cell a0.out 1).trans rfl;have a0i:=blk_frozen a0.out 0;have a0j:=blk_frozen a0.out 1)|((with_reducible refine gate_callee (f:=53) rfl ?_);refine goesL_ (some 21) rfl rfl Try.func53 zqk rfl #[.agg #[.slice g7 a1.length f9,.slice g8 a4.length g0],.int .i64 a3] rfl zr2 ?_;(with_reducible refine(spec_UpToOf.calls k _ _ a1 _ _ a4 a3 e2 _ ?side1 ?side2 ?side3 ?side4 A5.out).mono ?_);(case side1=> exact zr40);(case side2=>exact(Kd.S_reads' a8.out).2.1);(case side3=> exact zr42);(case side4=>exact(Kd.Q_reads' a7.out).2.1);rintro e w80 ⟨q4,rfl,b6,hb⟩;refine⟨_,rfl,?_⟩;replace a8:=zqm (Kd.S_elder' zr31 (Kd.R_base b6) hb);have f6:=zqm (Kd.Q_elder' zr24 (Kd.R_base b6) hb);have f5:=zqm (Kd.R_elder' zr32 (Kd.R_base b6) hb);have e1:=zqm (Kd.R_lower (Kd.R_new' (Kd.R_new' b6 (Kd.Q_lt zr24)) (Kd.R_lt zr32)) (below_size zr3));replace a0:=zqm (blk_below (g:=a5) (o:= .cells #[.slice g7 a1.length f9,.slice g8 a4.length g0] 30 (0,0)) zr1 hb);replace HB:=zqm (below_step zr3 hb);clear a7 b5;have a7:=f6;have b5:=f5;clear f6 f5 hb b6;obtain⟨w4,w5,w6⟩:=Kd.R_slice b5.out;subst w6;obtain⟨w7,w8,w9⟩:=Kd.R_slice e1.out;subst w9)|((with_reducible refine gate_callee (f:=52) rfl ?_);refine goesL_ (some 22) rfl rfl Try.func52 zqk rfl #[.slice w4 a6.length w5,.slice w7 e2.length w8] rfl zr2 ?_;(with_reducible refine(laws_sameInts.calls k _ _ a6 _ _ e2 false _ ?side1 ?side2 ?side3 ?side4 A6.out).mono ?_);(case side1=> exact zr41);(case side2=>exact(Kd.R_reads' b5.out).2.1);(case side3=> exact zr39);(case side4=>exact(Kd.R_reads' e1.out).2.1);rintro e w' ⟨rfl,⟨nd,rfl⟩⟩;refine⟨_,rfl,?_⟩))
   go_ret
   exact⟨zr12,zr3⟩
def laws_FnUpToOf.Pure : Prop := ∀ (l0 : List Int), l0.length ≤ maxLen → l0.length * 1 ≤ 140737488351232 → (∀ x ∈ l0, (Lit.int .u8 x).wf = true) → ∃ k, laws_FnUpToOf.f k l0 = some true
theorem laws_FnUpToOf.walk (P : laws_FnUpToOf.Pure) (a0 : Option Addr) (len0 cap0 : Nat) (z0 : List Int) (w : World) (w0 : (a0 = none ∧ len0 = 0 ∧ cap0 = 0 ∧ z0 = []) ∨ ∃ x, a0 = some x ∧ len0 ≤ cap0 ∧ cap0 ≤ maxLen ∧ z0.length = cap0 ∧ (∀ i, i < z0.length → w.cell? (x.add i) = some (.int .u8 (z0.getD i 0))) ∧ ∀ n ∈ z0, (Lit.int .u8 n).wf = true) (y0 : len0 * 1 ≤ 140737488351232) :
  Calls Try.prog 10 #[.slice a0 len0 cap0] w fun e w' => e = .returned (.bool true) ∧ Below w.heap.size w w' := by
 obtain ⟨l0, rfl, hr0, hm0, hw0, hc0⟩ := ReadsInt.ofRowC w0
 obtain ⟨k, h⟩ := P l0 hm0 y0 hw0
 refine (laws_FnUpToOf.calls k _ _ l0 true w (Kd.C_of_reads (d := (0 : Int)) (h1 := fun _ => rfl) hr0) hc0 h).mono ?_
 rintro e w' ⟨rfl, hd⟩
 exact ⟨rfl, hd⟩
end Go.Proofs.Ytdoomkcgdcfmlaa.Print
end
section
namespace Go.Proofs.Ytdoomkcgdcfmlaa.Print
open Go.RowKit Go.Proofs.YtdoomkcgdcfmlaaW.PrintWords Go.Proofs.YtdoomkcgdcfmlaaW.PrintLast Go.Proofs.YtdoomkcgdcfmlaaW.PrintMore
open Oml
theorem spec_l2Both.ev (U : List (List Int)) (N : List Int) (a b : Int) : Ev (fun k => spec_l2Both.f k U N a b) (logicB U N && (inR U.length a && inR U.length b)) := by
  unfold spec_l2Both.f
  refine Ev.bind (spec_LogicOk.ev U N) ?_
  cases hl:logicB U N with
  | false => repeat (first | ((with_reducible refine Ev.ite_pos ?_ ?_); (first | assumption | (focus omega) | (focus (simp; done)))) | ((with_reducible refine Ev.ite_neg ?_ ?_); (first | assumption | (focus omega) | (focus (simp; done)))))
             exact Ev.now _
  | true =>
    have L:=logicB_iff.1 hl
    have hs:=L.small
    have hp:=L.pos
    have hln:=L.len
    have e : ∀ c : Int, (decide (0 ≤ c) && decide (c ≤ wrap64 ((N.length : Int) - 1))) = inR U.length c := by
      intro c
      unfold inR
      rw [wrap_small (by omega) (by omega)]
      congr 1
      rw [decide_eq_decide];omega
    repeat(first|((with_reducible refine Ev.ite_pos ?_ ?_);(first|assumption|(focus omega)|(focus (simp;done))))|((with_reducible refine Ev.ite_neg ?_ ?_);(first|assumption|(focus omega)|(focus (simp;done)))))
    simp only [l1In_eq,e]
    refine Ev.pbind rfl ?_
    cases ha:inR U.length a with
    | false => repeat (first | ((with_reducible refine Ev.ite_pos ?_ ?_); (first | assumption | (focus omega) | (focus (simp; done)))) | ((with_reducible refine Ev.ite_neg ?_ ?_); (first | assumption | (focus omega) | (focus (simp; done)))))
               exact Ev.eq (Ev.now _) (by simp)
    | true => repeat (first | ((with_reducible refine Ev.ite_pos ?_ ?_); (first | assumption | (focus omega) | (focus (simp; done)))) | ((with_reducible refine Ev.ite_neg ?_ ?_); (first | assumption | (focus omega) | (focus (simp; done)))))
              exact Ev.eq (Ev.now _) (by simp)
end Go.Proofs.Ytdoomkcgdcfmlaa.Print
end
section
namespace Go.Proofs.Ytdoomkcgdcfmlaa.Print
open Go.RowKit Go.Proofs.YtdoomkcgdcfmlaaW.PrintWords Go.Proofs.YtdoomkcgdcfmlaaW.PrintLast Go.Proofs.YtdoomkcgdcfmlaaW.PrintMore
open Oml
theorem rd_in {U : List (List Int)} {N : List Int} (_L : Logic U N) {a : Int} (ha : In U a) : rd N a = notI N a := by
  obtain ⟨x, rfl⟩ : ∃ x : Nat, a = x := ⟨a.toNat, by have := ha.1; omega⟩
  rw [rd_nat]; rfl
section
variable {U : List (List Int)} {N : List Int} (L : Logic U N)
include L
theorem meet_in {a b : Int} (ha : In U a) (hb : In U b) : Ev (fun k => spec_l1Meet.f k U a b) (andI U a b) := by
  obtain⟨x,rfl⟩: ∃x:Nat,a=x:=⟨a.toNat,by have:=ha.1;omega⟩
  obtain⟨y,rfl⟩: ∃y:Nat,b=y:=⟨b.toNat,by have:=hb.1;omega⟩
  exact spec_l1Meet.ev L.toOrder (by have:=ha.2;omega) (by have:=hb.2;omega)
theorem join_in {a b : Int} (ha : In U a) (hb : In U b) : Ev (fun k => spec_l1Join.f k U a b) (orI U a b) := by
  obtain⟨x,rfl⟩: ∃x:Nat,a=x:=⟨a.toNat,by have:=ha.1;omega⟩
  obtain⟨y,rfl⟩: ∃y:Nat,b=y:=⟨b.toNat,by have:=hb.1;omega⟩
  exact spec_l1Join.ev L.toOrder (by have:=ha.2;omega) (by have:=hb.2;omega)
end
end Go.Proofs.Ytdoomkcgdcfmlaa.Print
end
section
namespace Go.Proofs.Ytdoomkcgdcfmlaa.Print
open Go.RowKit Go.Proofs.YtdoomkcgdcfmlaaW.PrintWords Go.Proofs.YtdoomkcgdcfmlaaW.PrintLast Go.Proofs.YtdoomkcgdcfmlaaW.PrintMore
open Oml
theorem spec_NotOf.ev (U : List (List Int)) (N : List Int) (a : Int) : Ev (fun k => spec_NotOf.f k U N a) (if logicB U N = true then (if inR U.length a = true then notI N a else -1) else -1) := by
  unfold spec_NotOf.f
  refine Ev.bind (spec_l2Both.ev U N a a) ?_
  cases hl:logicB U N with
  | false => repeat (first | ((with_reducible refine Ev.ite_pos ?_ ?_); (first | assumption | (focus omega) | (focus (simp; done)))) | ((with_reducible refine Ev.ite_neg ?_ ?_); (first | assumption | (focus omega) | (focus (simp; done)))))
             exact Ev.now _
  | true =>
    have L:=logicB_iff.1 hl
    cases ha:inR U.length a with
    | false => repeat (first | ((with_reducible refine Ev.ite_pos ?_ ?_); (first | assumption | (focus omega) | (focus (simp; done)))) | ((with_reducible refine Ev.ite_neg ?_ ?_); (first | assumption | (focus omega) | (focus (simp; done)))))
               exact Ev.now _
    | true =>
      have ia:=inR_iff.1 ha
      have h0:=ia.1
      have h1:=ia.2
      have hl2:=L.len
      obtain⟨x,rfl⟩: ∃x:Nat,a=x:=⟨a.toNat,by omega⟩
      repeat(first|((with_reducible refine Ev.ite_pos ?_ ?_);(first|assumption|(focus omega)|(focus (simp;done))))|((with_reducible refine Ev.ite_neg ?_ ?_);(first|assumption|(focus omega)|(focus (simp;done)))))
      exact Ev.eq (Ev.now _) (by rw [rd_nat];rfl)
end Go.Proofs.Ytdoomkcgdcfmlaa.Print
end
