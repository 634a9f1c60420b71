/- Part 1 of what this is proved by: The law of BlocksWith. -/
import Derived.Test.YtcbjpdaogicibaaLB8
import Derived.Below
import Derived.Deep.Draws
import Derived.Deep.AppendLies
import Derived.Maps.AppendAt
import Derived.OwnWalk
import Derived.Laws.BytesArg
import Derived.Laws.MakeOwn
import Derived.Laws.OwnMore
import Derived.Deep.OwnRows
import Derived.Tactics
import Derived.Lib.ConvBytes
import Derived.Laws.Slices
import Derived.WalkKit
import Derived.KernelRfl
import Derived.RowKit3
import Derived.Deep.LoopGhost
import Derived.Deep.QuietTactic
import Derived.BigQuiet
import Derived.WideLaws
import Derived.Deep.DeepCutAuto
import Derived.Deep.CutBlock
import Derived.Deep.RegionHeld3
import Derived.Laws.Rows
import Derived.Lib.AppendStr
import Derived.ArgAppend
import Derived.Laws.IdiomCopy
import Derived.RowKit
import Derived.Test.YtcbjpdaogicibaaProg
import Derived.OrdersHeld
import Derived.Laws.BitsLemmas
import Derived.Laws.Bits64b
set_option linter.all false
section
namespace Go.Proofs.YtcbjpdaogicibaaW.PrintWords
open Go.RowKit
def nums (k : IntKind) (xs : List Int) : List Value := xs.map fun x => .int k x
theorem own_lit (W : World) (base : Nat) (e : TypeId) (k : IntKind) (xs : List Int) (hb : base ≤ W.heap.size) (hm : xs.length ≤ 9223372036854775807) :
    (W.alloc (.cells (nums k xs).toArray e)).ownsRow base e 1 (.slice (some ⟨W.heap.size,0,none⟩) xs.length xs.length) xs.length (nums k xs):=by
  have h:=World.ownsRow_lit (base:=base) (e:=e) (size:=1) W (nums k xs).toArray xs.length hb (by simpa [maxLen] using hm) (by simp [nums])
  simpa using h
section
variable {P : Program}
theorem results_ct {fn : Func} {p u : Tmp} {ty : TypeId} (h : fn.results = #[.cell p ty, .tmp u]) (tmps : Array Value) (w : World) (g : Nat) (t : TypeId) (cs : Array Value) (fr : Nat × Nat) (d : TypeDesc)
    (hp:tmps.getD p undef= .pointer (some ⟨g,0,none⟩)) (hg:w.heap[g]? =some (.cells cs t fr))
    (hu:P.underlying ty=some d) (hd:(match d with| .struct _| .array _ _=>true|_=>false)=true) (hi:(P.info? ty).map (·.size)=some cs.size):
    (results fn tmps).run P w= .ok (.tuple #[.agg cs,tmps.getD u undef]) w:=by
  have hp':tmps[p]?.getD undef= .pointer (some ⟨g,0,none⟩):=by simpa using hp
  simp [results,h,hp',asAddr,run_loadVar_row w g t ty cs fr d hg hu hd hi]
theorem results_ctt {fn : Func} {p u v : Tmp} {ty : TypeId} (h : fn.results = #[.cell p ty, .tmp u, .tmp v]) (tmps : Array Value) (w : World) (g : Nat) (t : TypeId) (cs : Array Value) (fr : Nat × Nat) (d : TypeDesc)
    (hp:tmps.getD p undef= .pointer (some ⟨g,0,none⟩)) (hg:w.heap[g]? =some (.cells cs t fr))
    (hu:P.underlying ty=some d) (hd:(match d with| .struct _| .array _ _=>true|_=>false)=true) (hi:(P.info? ty).map (·.size)=some cs.size):
    (results fn tmps).run P w= .ok (.tuple #[.agg cs,tmps.getD u undef,tmps.getD v undef]) w:=by
  have hp':tmps[p]?.getD undef= .pointer (some ⟨g,0,none⟩):=by simpa using hp
  simp [results,h,hp',asAddr,run_loadVar_row w g t ty cs fr d hg hu hd hi]
end
namespace Kd
section
variable {α : Type} {d : Kd α} {e : Nat} {w w1 : World} {base : Nat} {ok ok' : Nat → Prop} {v : Value} {xs : List α}
theorem R_grown (h : d.R e w base ok v xs) {row : Option Nat} (hg : w.grownBy w1 row) (hok : ∀ k, ok k → some k ≠ row) : d.R e w1 base ok v xs := R_step h (fun k ho hk => hg.block k hk (hok k ho))
end
end Kd
theorem cell_far {W : World} {p a : Addr} (h : a.block ≠ p.block) (u : Value) : (W.setCell p u).cell? a = W.cell? a := by
  have := Below.heap_setCell W p u a.block h
  simp [World.cell?, this]
end Go.Proofs.YtcbjpdaogicibaaW.PrintWords
end
section
namespace Go.Proofs.YtcbjpdaogicibaaW.PrintWords
open Go.RowKit
def mx (a b : Int) : Int := if a < b then b else a
def shr (k : IntKind) (x y : Int) : Int := x / 2 ^ min y.toNat k.bits
theorem shr_small {k : IntKind} {x y j : Int} (h : shr k x y = j) (hy : y ≤ k.bits) : x / 2 ^ y.toNat = j := by rw [← h]; unfold shr; rw [Nat.min_eq_left (by omega)]
end Go.Proofs.YtcbjpdaogicibaaW.PrintWords

end
section
namespace Go.Proofs.Ytcbjpdaogicibaa
variable {p : Prop}
theorem zq20 (h:p:=by repeat(first|exact(Kd.S_reads' a4.out).2.2|(with_reducible refine Kd.C_alloc ?_ _)|(with_reducible refine Kd.C_drewN ?_ _)|(with_reducible refine Kd.C_drew ?_))):p:=h
theorem zq23 (h:p:=by (with_reducible repeat(first|apply Kd.S_alloc|apply Kd.S_drewN|apply Kd.S_drew));exact a4.out):p:=h
theorem zq26 (h:p:=by repeat(first|(with_reducible first|exact HB.out|apply below_alloc|apply pw_below_drewN|apply below_drew1|refine below_set ?_ a1.out)|exact HB.out)):p:=h
theorem zq37 (h:p:=by repeat(first|exact(Kd.Q_reads' a3.out).2.2|(with_reducible refine Kd.C_alloc ?_ _)|(with_reducible refine Kd.C_drewN ?_ _)|(with_reducible refine Kd.C_drew ?_))):p:=h
theorem zq46 (h:p:=by (with_reducible repeat(first|apply Kd.Q_alloc|apply Kd.Q_drewN|apply Kd.Q_drew));exact a3.out):p:=h
theorem zq59 (h:p:=by repeat(first|exact(Kd.C_below a7.out (by repeat(first|(with_reducible first|exact HB.out|apply below_alloc|apply pw_below_drewN|apply below_drew1|refine below_set ?_ a5.out)|exact HB.out)))|(with_reducible refine Kd.C_alloc ?_ _)|(with_reducible refine Kd.C_drewN ?_ _)|(with_reducible refine Kd.C_drew ?_))):p:=h
theorem zq66 (h:p:=by repeat(first|exact(Kd.C_below b3.out HB.out)|(with_reducible refine Kd.C_alloc ?_ _)|(with_reducible refine Kd.C_drewN ?_ _)|(with_reducible refine Kd.C_drew ?_))):p:=h
theorem zq75 (h:p:=by repeat(first|exact(Kd.C_below b2.out HB.out)|(with_reducible refine Kd.C_alloc ?_ _)|(with_reducible refine Kd.C_drewN ?_ _)|(with_reducible refine Kd.C_drew ?_))):p:=h
theorem zq77 (h:p:=by repeat(first|(with_reducible first|exact HB.out|apply below_alloc|apply pw_below_drewN|apply below_drew1|refine below_set ?_ (IsS110.ge a0.out)|refine below_set ?_ c2.out|refine below_set ?_ c9.out)|exact HB.out)):p:=h
theorem zq83 (h:p:=by repeat(first|(with_reducible first|exact a0.out|apply IsS110.alloc|apply IsS110.drewN|apply IsS110.drew|apply IsS110.set_1|refine IsS110.far ?_ a7.out _|refine IsS110.far ?_ a9.out _)|exact a0.out)):p:=h
theorem zq87 (h:p:=by repeat(first|exact(Kd.C_below a7.out HB.out)|(with_reducible refine Kd.C_alloc ?_ _)|(with_reducible refine Kd.C_drewN ?_ _)|(with_reducible refine Kd.C_drew ?_))):p:=h
theorem zq90 (h:p:=by repeat(first|(with_reducible first|exact HK.out|apply KeepBut.set_|apply keep_drewN|apply keep_drew|apply keep_alloc|refine keep_far ?_ b9.out _|refine keep_far ?_ d0.out _)|exact HK.out)):p:=h
theorem zq93 (h:p:=by repeat(first|(with_reducible first|exact HB.out|apply below_alloc|apply pw_below_drewN|apply below_drew1|refine below_set ?_ (IsS110.ge a1.out)|refine below_set ?_ a5.out)|exact HB.out)):p:=h
theorem zq98 (h:p:=by repeat(first|exact g1.out|(with_reducible refine Kd.C_alloc ?_ _)|(with_reducible refine Kd.C_drewN ?_ _)|(with_reducible refine Kd.C_drew ?_))):p:=h
theorem zq103 (h:p:=by repeat(first|(with_reducible first|exact HK.out|apply KeepBut.set_|apply keep_drewN|apply keep_drew|apply keep_alloc|refine keep_far ?_ b9.out _)|exact HK.out)):p:=h
theorem zq116 (h:p:=by repeat(first|exact(Kd.C_below a9.out HB.out)|(with_reducible refine Kd.C_alloc ?_ _)|(with_reducible refine Kd.C_drewN ?_ _)|(with_reducible refine Kd.C_drew ?_))):p:=h
theorem zq122 (h:p:=by (with_reducible repeat(first|apply Kd.Q_alloc|apply Kd.Q_drewN|apply Kd.Q_drew));exact b3.out):p:=h
theorem zq123 (h:p:=by (with_reducible repeat(first|apply Kd.S_alloc|apply Kd.S_drewN|apply Kd.S_drew));exact b2.out):p:=h
theorem zq132 (h:p:=by repeat(first|(with_reducible first|exact a0.out|apply IsS110.alloc|apply IsS110.drewN|apply IsS110.drew|apply IsS110.set_1|refine IsS110.far ?_ a7.out _)|exact a0.out)):p:=h
theorem zq134 (h:p:=by repeat(first|exact(Kd.C_below e2.out HB.out)|(with_reducible refine Kd.C_alloc ?_ _)|(with_reducible refine Kd.C_drewN ?_ _)|(with_reducible refine Kd.C_drew ?_))):p:=h
theorem zq135 (h:p:=by repeat(first|exact(Kd.C_below e3.out HB.out)|(with_reducible refine Kd.C_alloc ?_ _)|(with_reducible refine Kd.C_drewN ?_ _)|(with_reducible refine Kd.C_drew ?_))):p:=h
theorem zq167 (h:p:=by (with_reducible repeat(first|apply Kd.Q_alloc|apply Kd.Q_drewN|apply Kd.Q_drew));exact(Kd.Q_mono (Kd.Q_far (p:=⟨a5,1,none⟩) (Kd.Q_far (p:=⟨a5,0,none⟩) (Kd.Q_types a3.out a0.out (by decide)) (fun _ hk=>hk.2) (.slice b2 a1.length b0)) (fun _ hk=>hk.2) (.slice b3 a2.length b1)) (fun _ h_=>h_.1))):p:=h
theorem zq168 (h:p:=by (with_reducible repeat(first|apply Kd.Q_alloc|apply Kd.Q_drewN|apply Kd.Q_drew));exact(Kd.Q_mono (Kd.Q_far (p:=⟨a5,1,none⟩) (Kd.Q_far (p:=⟨a5,0,none⟩) (Kd.Q_types a3.out a0.out (by decide)) (fun _ hk=>hk.2) (.slice c3 a1.length b8)) (fun _ hk=>hk.2) (.slice c4 a2.length b9)) (fun _ h_=>h_.1))):p:=h
theorem zq169 (h:p:=by (with_reducible repeat(first|apply Kd.Q_alloc|apply Kd.Q_drewN|apply Kd.Q_drew));exact(Kd.Q_mono (Kd.Q_far (p:=⟨a5,1,none⟩) (Kd.Q_far (p:=⟨a5,0,none⟩) (Kd.Q_types a3.out a0.out (by decide)) (fun _ hk=>hk.2) (.slice d3 a1.length d0)) (fun _ hk=>hk.2) (.slice d4 a2.length d1)) (fun _ h_=>h_.1))):p:=h
theorem zq170 (h:p:=by (with_reducible repeat(first|apply Kd.Q_alloc|apply Kd.Q_drewN|apply Kd.Q_drew));exact(Kd.Q_mono (Kd.Q_far (p:=⟨a5,1,none⟩) (Kd.Q_far (p:=⟨a5,0,none⟩) (Kd.Q_types a3.out a0.out (by decide)) (fun _ hk=>hk.2) (.slice e1 a1.length d9)) (fun _ hk=>hk.2) (.slice e2 a2.length e0)) (fun _ h_=>h_.1))):p:=h
theorem zq171 (h:p:=by (with_reducible repeat(first|apply Kd.Q_alloc|apply Kd.Q_drewN|apply Kd.Q_drew));exact(Kd.Q_mono (Kd.Q_far (p:=⟨a5,1,none⟩) (Kd.Q_far (p:=⟨a5,0,none⟩) (Kd.Q_types a3.out a0.out (by decide)) (fun _ hk=>hk.2) (.slice e9 a1.length e3)) (fun _ hk=>hk.2) (.slice f0 a2.length e4)) (fun _ h_=>h_.1))):p:=h
theorem zq172 (h:p:=by (with_reducible repeat(first|apply Kd.Q_alloc|apply Kd.Q_drewN|apply Kd.Q_drew));exact(Kd.Q_mono (Kd.Q_far (p:=⟨a5,1,none⟩) (Kd.Q_far (p:=⟨a5,0,none⟩) (Kd.Q_types a3.out a0.out (by decide)) (fun _ hk=>hk.2) (.slice f1 a1.length e5)) (fun _ hk=>hk.2) (.slice f2 a2.length e6)) (fun _ h_=>h_.1))):p:=h
theorem zq173 (h:p:=by (with_reducible repeat(first|apply Kd.Q_alloc|apply Kd.Q_drewN|apply Kd.Q_drew));exact(Kd.Q_mono (Kd.Q_far (p:=⟨a5,1,none⟩) (Kd.Q_far (p:=⟨a5,0,none⟩) (Kd.Q_types a3.out a0.out (by decide)) (fun _ hk=>hk.2) (.slice f3 a1.length e7)) (fun _ hk=>hk.2) (.slice f4 a2.length e8)) (fun _ h_=>h_.1))):p:=h
theorem zq209 (h:p:=by (with_reducible repeat(first|apply Kd.S_alloc|apply Kd.S_drewN|apply Kd.S_drew));exact(Kd.S_mono (Kd.S_far (p:=⟨a5,1,none⟩) (Kd.S_far (p:=⟨a5,0,none⟩) (Kd.S_types a4.out a0.out (by decide)) (fun _ hk=>hk.2) (.slice b2 a1.length b0)) (fun _ hk=>hk.2) (.slice b3 a2.length b1)) (fun _ h_=>h_.1))):p:=h
theorem zq210 (h:p:=by (with_reducible repeat(first|apply Kd.S_alloc|apply Kd.S_drewN|apply Kd.S_drew));exact(Kd.S_mono (Kd.S_far (p:=⟨a5,1,none⟩) (Kd.S_far (p:=⟨a5,0,none⟩) (Kd.S_types a4.out a0.out (by decide)) (fun _ hk=>hk.2) (.slice c3 a1.length b8)) (fun _ hk=>hk.2) (.slice c4 a2.length b9)) (fun _ h_=>h_.1))):p:=h
theorem zq211 (h:p:=by (with_reducible repeat(first|apply Kd.S_alloc|apply Kd.S_drewN|apply Kd.S_drew));exact(Kd.S_mono (Kd.S_far (p:=⟨a5,1,none⟩) (Kd.S_far (p:=⟨a5,0,none⟩) (Kd.S_types a4.out a0.out (by decide)) (fun _ hk=>hk.2) (.slice d3 a1.length d0)) (fun _ hk=>hk.2) (.slice d4 a2.length d1)) (fun _ h_=>h_.1))):p:=h
theorem zq212 (h:p:=by (with_reducible repeat(first|apply Kd.S_alloc|apply Kd.S_drewN|apply Kd.S_drew));exact(Kd.S_mono (Kd.S_far (p:=⟨a5,1,none⟩) (Kd.S_far (p:=⟨a5,0,none⟩) (Kd.S_types a4.out a0.out (by decide)) (fun _ hk=>hk.2) (.slice e1 a1.length d9)) (fun _ hk=>hk.2) (.slice e2 a2.length e0)) (fun _ h_=>h_.1))):p:=h
theorem zq213 (h:p:=by (with_reducible repeat(first|apply Kd.S_alloc|apply Kd.S_drewN|apply Kd.S_drew));exact(Kd.S_mono (Kd.S_far (p:=⟨a5,1,none⟩) (Kd.S_far (p:=⟨a5,0,none⟩) (Kd.S_types a4.out a0.out (by decide)) (fun _ hk=>hk.2) (.slice e9 a1.length e3)) (fun _ hk=>hk.2) (.slice f0 a2.length e4)) (fun _ h_=>h_.1))):p:=h
theorem zq214 (h:p:=by (with_reducible repeat(first|apply Kd.S_alloc|apply Kd.S_drewN|apply Kd.S_drew));exact(Kd.S_mono (Kd.S_far (p:=⟨a5,1,none⟩) (Kd.S_far (p:=⟨a5,0,none⟩) (Kd.S_types a4.out a0.out (by decide)) (fun _ hk=>hk.2) (.slice f1 a1.length e5)) (fun _ hk=>hk.2) (.slice f2 a2.length e6)) (fun _ h_=>h_.1))):p:=h
theorem zq215 (h:p:=by (with_reducible repeat(first|apply Kd.S_alloc|apply Kd.S_drewN|apply Kd.S_drew));exact(Kd.S_mono (Kd.S_far (p:=⟨a5,1,none⟩) (Kd.S_far (p:=⟨a5,0,none⟩) (Kd.S_types a4.out a0.out (by decide)) (fun _ hk=>hk.2) (.slice f3 a1.length e7)) (fun _ hk=>hk.2) (.slice f4 a2.length e8)) (fun _ h_=>h_.1))):p:=h
theorem zq234 (h:p:=by repeat(first|exact(Kd.C_below a8.out HB.out)|(with_reducible refine Kd.C_alloc ?_ _)|(with_reducible refine Kd.C_drewN ?_ _)|(with_reducible refine Kd.C_drew ?_))):p:=h
theorem zq235 (h:p:=by repeat(first|exact(Kd.C_below b0.out HB.out)|(with_reducible refine Kd.C_alloc ?_ _)|(with_reducible refine Kd.C_drewN ?_ _)|(with_reducible refine Kd.C_drew ?_))):p:=h
theorem zq236 (h:p:=by repeat(first|exact(Kd.C_below b1.out HB.out)|(with_reducible refine Kd.C_alloc ?_ _)|(with_reducible refine Kd.C_drewN ?_ _)|(with_reducible refine Kd.C_drew ?_))):p:=h
theorem zq241 (h:p:=by (with_reducible repeat(first|apply Kd.R_alloc|apply Kd.R_drewN|apply Kd.R_drew));exact b1.out):p:=h
theorem zq246 (h:p:=by (with_reducible repeat(first|refine blk_drewN ?_ _|refine blk_drew ?_|refine blk_alloc ?_ _));exact a3.out):p:=h
theorem zq261 (h:p:=by repeat(first|(with_reducible first|exact HB.out|apply below_alloc|apply pw_below_drewN|apply below_drew1|refine below_set ?_ (IsS110.ge a0.out)|refine below_set ?_ c2.out)|exact HB.out)):p:=h
theorem zq265 (h:p:=by have:=b6.out;have:=b5.out;have:=d7.out;omega):p:=h
theorem zq267 (h:p:=by exact(below_size (by repeat(first|(with_reducible first|exact HB.out|apply below_alloc|apply pw_below_drewN|apply below_drew1|refine below_set ?_ a1.out)|exact HB.out)))):p:=h
theorem zq269 (h:p:=by repeat(first|(with_reducible first|exact a1.out|apply IsS110.alloc|apply IsS110.drewN|apply IsS110.drew|apply IsS110.set_1|refine IsS110.far ?_ a4.out _)|exact a1.out)):p:=h
theorem zq273 (h:p:=by (try simp only [List.map_toArray, List.map_cons, List.map_nil]); first | done | rfl):p:=h
theorem zq276 (h:p:=by exact(by repeat(first|(with_reducible first|exact HB.out|apply below_alloc|apply pw_below_drewN|apply below_drew1|refine below_set ?_ a1.out)|exact HB.out))):p:=h
theorem zq279 (h:p:=by (try simp only [List.map_toArray,List.map_cons,List.map_nil]);first|done|(simp only [c7];rfl)|rfl|(simp only [List.length_drop,List.length_take];rfl)):p:=h
theorem zq303 (h:p:=by repeat(first|exact Below.refl _ _|apply pw_below_drewN|apply below_drew1)):p:=h
theorem zq306 (h:p:=by first|go_num|(rw [wrap_small (by omega) (by have:=HLT.out;have:=HLEN.out;have:=HLEN2.out;omega)];go_num)):p:=h
theorem zq312 (h:p:=by (with_reducible repeat(first|apply Kd.R_alloc|apply Kd.R_drewN|apply Kd.R_drew));exact d8.out):p:=h
theorem zq324 (h:p:=by first|go_num|(rw [wrap_small (by omega) (by have:=HLT.out;have:=HM2.out;omega)];go_num)):p:=h
theorem zq325 (h:p:=by first | (rw [← HSI.out]; exact HJj.out) | (rw [← HSI.out]; exact HD.out _ _ _ HJj.out)):p:=h
theorem zq328 (h:p:=by first|rfl|(simp;done)|(simp only [← a6] <;> (first|rfl|simp))|(simp [*];done)):p:=h
theorem zq333 (h:p:=by repeat(first|exact HUC.out|(refine Kd.C_drewN ?_ _)|(refine Kd.C_drew ?_))):p:=h
theorem zq344 (h:p:=by repeat(first|exact HB4.out|apply pw_below_drewN|apply below_drew1)):p:=h
end Go.Proofs.Ytcbjpdaogicibaa
end
section
namespace Go.Proofs.Ytcbjpdaogicibaa.Print
open Go.RowKit Go.Proofs.YtcbjpdaogicibaaW.PrintWords Go.Proofs.YtcbjpdaogicibaaW.PrintLast Go.Proofs.YtcbjpdaogicibaaW.PrintMore
def spec_l20Two.f (k : Nat) (s0_0 : List Int) (s0_1 : Int) (a1 : Int) : Option ((List (List Int)) × List Int × Int × Int × Int) := (spec_l20Logic.f k s0_0 s0_1 a1).bind fun bt564 => ((spec_l20Rd_pick.f k s0_0 bt564.2.2 (mx (bt564.2.1.length : Int) 1)).bind fun bt572 => ((spec_l20Rd_pick.f k s0_0 bt572.2 40).bind fun bt574 => ((spec_l20Rd_pick.f k s0_0 bt574.2 (mx (bt564.2.1.length : Int) 1)).bind fun bt576 => ((spec_l20Rd_pick.f k s0_0 bt576.2 40).bind fun bt578 => (some (bt564.1, bt564.2.1, wrap64 (bt572.1 + (wrap64 ((wrap64 (Int.tdiv bt574.1 39)) * 12))), wrap64 (bt576.1 - (wrap64 ((wrap64 (Int.tdiv bt578.1 39)) * 12))), bt578.2))))))
def spec_l20Two.T3 : Bool × List (List Nat × List Nat) := (true, [([], []), ([], []), ([], []), ([1, 2], [1, 2]), ([], []), ([4, 3], [4]), ([5], [5]), ([6], [6]), ([3, 7], [3, 7]), ([], []), ([], []), ([9, 10, 5], [9, 10]), ([], []), ([12, 11], [12]), ([13], [13]), ([14], [14]), ([11, 15], [11, 15]), ([0, 13, 0], [0]), ([8, 17, 0, 1, 2, 3, 4, 5, 6, 7, 8, 17], [8]), ([16, 18, 0, 1, 2, 3, 4, 5, 6, 7, 8, 9, 10, 11, 12, 13, 14, 15, 16, 17, 18], [16])])
def spec_l20Two.B3 : List Nat := [0, 0, 0, 6, 0, 30, 62, 126, 254, 0, 0, 1598, 0, 7742, 15934, 32318, 65086, 15935, 147455, 524287]
theorem spec_l20Two.tab3 : rtab .any (opsOf Try.f86 3) = spec_l20Two.T3 := by kernel_rfl
theorem spec_l20Two.bits3 : waitsOk spec_l20Two.T3.2 spec_l20Two.B3 = true := by kernel_rfl
set_option maxHeartbeats 8000000 in
set_option maxRecDepth 100000 in
theorem spec_l20Two.calls (k : Nat) (g : Nat) (s0_0 : List Int) (s0_1 : Int) (a1 : Int) (r1 : List (List Int)) (r2 : List Int) (r3 : Int) (r4 : Int) (r5 : Int) (w0 w : World) (hI : IsS110 w0 w g s0_0 s0_1) (hB : Below w0.heap.size w0 w) (h : spec_l20Two.f k s0_0 s0_1 a1 = some (r1, r2, r3, r4, r5)) :
  Calls Try.prog 86 #[.pointer (some ⟨g, 0, none⟩), .int .i64 a1] w fun e w' => ∃ v0_ v1_ : Value, e = .returned (.tuple #[.agg #[v0_, v1_], .int .i64 r3, .int .i64 r4]) ∧ Kd.S (Kd.slice 3 (Kd.int .i64)) 24 w' w.heap.size (fun k_ => some k_ ≠ (v1_ : Value).ownBlock) v0_ r1 ∧ Kd.Q (Kd.int .i64) 3 w' w.heap.size (fun _ => True) v1_ r2 ∧ IsS110 w0 w' g s0_0 r5 ∧ Below w0.heap.size w0 w' ∧ KeepBut w w' g none := by
 have hu26:=Try.underlying26;have a0:=zqm hI;have HK:=zqm (KeepBut.refl w g none);have HL:=zqm hB.size;clear hI;have f3:=zqm hB.size;have HB:=zqm hB;clear hB;have H:((spec_l20Logic.f k s0_0 s0_1 a1).bind fun d2=>((spec_l20Rd_pick.f k s0_0 d2.2.2 (mx (d2.2.1.length:Int) 1)).bind fun c3=>((spec_l20Rd_pick.f k s0_0 c3.2 40).bind fun c0=>((spec_l20Rd_pick.f k s0_0 c0.2 (mx (d2.2.1.length:Int) 1)).bind fun b7=>((spec_l20Rd_pick.f k s0_0 b7.2 40).bind fun b4=>(some (d2.1,d2.2.1,wrap64 (c3.1+(wrap64 ((wrap64 (Int.tdiv c0.1 39))*12))),wrap64 (b7.1 - (wrap64 ((wrap64 (Int.tdiv b4.1 39))*12))),b4.2)))))))=some (r1,r2,r3,r4,r5):=h;clear h;replace H:=Option.bind_eq_some_iff.mp H;obtain⟨⟨a8,a6,c6⟩,e8,H⟩:=H;replace H:((spec_l20Rd_pick.f k s0_0 c6 (mx (a6.length:Int) 1)).bind fun c3=>((spec_l20Rd_pick.f k s0_0 c3.2 40).bind fun c0=>((spec_l20Rd_pick.f k s0_0 c0.2 (mx (a6.length:Int) 1)).bind fun b7=>((spec_l20Rd_pick.f k s0_0 b7.2 40).bind fun b4=>(some (a8,a6,wrap64 (c3.1+(wrap64 ((wrap64 (Int.tdiv c0.1 39))*12))),wrap64 (b7.1 - (wrap64 ((wrap64 (Int.tdiv b4.1 39))*12))),b4.2))))))=some (r1,r2,r3,r4,r5):=H;have A3:=zqm e8;clear e8;obtain⟨c8,c7⟩: ∃j_:Int,(mx (a6.length:Int) 1)=j_:=⟨_,rfl⟩;(replace H:((spec_l20Rd_pick.f k s0_0 c6 (c8)).bind fun c3=>((spec_l20Rd_pick.f k s0_0 c3.2 40).bind fun c0=>((spec_l20Rd_pick.f k s0_0 c0.2 (c8)).bind fun b7=>((spec_l20Rd_pick.f k s0_0 b7.2 40).bind fun b4=>(some (a8,a6,wrap64 (c3.1+(wrap64 ((wrap64 (Int.tdiv c0.1 39))*12))),wrap64 (b7.1 - (wrap64 ((wrap64 (Int.tdiv b4.1 39))*12))),b4.2))))))=some (r1,r2,r3,r4,r5):=by first|(rw [c7] at H;exact H)|(simp only [c7] at H ⊢;exact H));(try rw [c7] at A3);(try(have hji4l:1≤c8:=by(rw [← c7];unfold mx;(repeat' split) <;> omega)));(try(have hji4m:0≤c8:=by omega));have g4:(if(a6.length:Int)<1 then 1 else(a6.length:Int))=c8:=c7;replace H:=Option.bind_eq_some_iff.mp H;obtain⟨⟨d3,d4⟩,e9,H⟩:=H;replace H:((spec_l20Rd_pick.f k s0_0 d4 40).bind fun c0=>((spec_l20Rd_pick.f k s0_0 c0.2 (c8)).bind fun b7=>((spec_l20Rd_pick.f k s0_0 b7.2 40).bind fun b4=>(some (a8,a6,wrap64 (d3+(wrap64 ((wrap64 (Int.tdiv c0.1 39))*12))),wrap64 (b7.1 - (wrap64 ((wrap64 (Int.tdiv b4.1 39))*12))),b4.2)))))=some (r1,r2,r3,r4,r5):=H;have A5:=zqm e9;clear e9;replace H:=Option.bind_eq_some_iff.mp H;obtain⟨⟨e2,d5⟩,f0,H⟩:=H;replace H:((spec_l20Rd_pick.f k s0_0 d5 (c8)).bind fun b7=>((spec_l20Rd_pick.f k s0_0 b7.2 40).bind fun b4=>(some (a8,a6,wrap64 (d3+(wrap64 ((wrap64 (Int.tdiv e2 39))*12))),wrap64 (b7.1 - (wrap64 ((wrap64 (Int.tdiv b4.1 39))*12))),b4.2))))=some (r1,r2,r3,r4,r5):=H;have A6:=zqm f0;clear f0;replace H:=Option.bind_eq_some_iff.mp H;obtain⟨⟨e3,d6⟩,f1,H⟩:=H;replace H:((spec_l20Rd_pick.f k s0_0 d6 40).bind fun b4=>(some (a8,a6,wrap64 (d3+(wrap64 ((wrap64 (Int.tdiv e2 39))*12))),wrap64 (e3 - (wrap64 ((wrap64 (Int.tdiv b4.1 39))*12))),b4.2)))=some (r1,r2,r3,r4,r5):=H;have A7:=zqm f1;clear f1;replace H:=Option.bind_eq_some_iff.mp H;obtain⟨⟨e6,e7⟩,f2,H⟩:=H;replace H:(some (a8,a6,wrap64 (d3+(wrap64 ((wrap64 (Int.tdiv e2 39))*12))),wrap64 (e3 - (wrap64 ((wrap64 (Int.tdiv e6 39))*12))),e7))=some (r1,r2,r3,r4,r5):=H;have A8:=zqm f2;clear f2;simp only [Option.some.injEq,Prod.mk.injEq] at H;obtain⟨rfl,rfl,rfl,rfl,rfl⟩:=H
 go_enter Try.func86,Try.ntmps86
 (try go_wp2_with (first|((with_reducible refine gate_dst (N:=4) rfl ?_);refine box_event ?hg (N:=4) ?hd (cs:= #[.slice none 0 0,.slice none 0 0]) (t:=26) ?hr ?_;(case hd=>rfl);(case hg=>rfl);(case hr=>first|(go_simp;done)|(go_simp;rfl));intro a5 hg w9 hbox hb;have d7:=zqm (IsS110.below zq39 hb);have d8:=zqm (KeepBut.trans zq16 (KeepBut.of_below hb g none) (.inl rfl));replace HB:=zqm (below_step zq28 hb);have a4:=zqm (hbox);have b9:=zqm ((by rw [hg];exact(keep_size (w:=w) (g:=g) (row:=none) zq16):w.heap.size≤a5));have c2:=zqm ((Nat.le_trans f3.out (by rw [hg];exact(keep_size (w:=w) (g:=g) (row:=none) zq16):w.heap.size≤a5):w0.heap.size≤a5));have a7:=zqm ((by rw [hg];exact Nat.ne_of_lt (IsS110.lt (show IsS110 w0 _ g s0_0 s0_1 from by repeat(first|(with_reducible first|exact a0.out|apply IsS110.alloc|apply IsS110.drewN|apply IsS110.drew|apply IsS110.set_1)|exact a0.out))):g≠a5));have c4:=zqm ((by rw [hg];exact Nat.ne_of_gt (IsS110.lt (show IsS110 w0 _ g s0_0 s0_1 from by repeat(first|(with_reducible first|exact a0.out|apply IsS110.alloc|apply IsS110.drewN|apply IsS110.drew|apply IsS110.set_1)|exact a0.out))):a5≠g));clear a0 HK;have a0:=d7;have HK:=d8;clear d7 d8 hb hbox hg)|((with_reducible refine gate_callee (f:=68) rfl ?_);refine goesL_ (some 11) rfl rfl Try.func68 zqk rfl #[.pointer (some ⟨g,0,none⟩),.int .i64 a1] rfl zq1 ?_;(with_reducible refine(spec_l20Logic.calls k g s0_0 s0_1 a1 a8 a6 c6 w0 _ ?side1 ?side2 A3.out).mono ?_);(case side1=> exact zq132);(case side2=> exact zq261);rintro e h1 ⟨g9,h0,rfl,f4,f5,hi,hb,hk⟩;refine⟨_,rfl,?_⟩;replace a4:=zqm (KeepBut.blk hk (g':=a5) (o:= .cells #[.slice none 0 0,.slice none 0 0] 26 (0,0)) zq8 c4.out (by simp));have b2:=zqm (Kd.S_lower f4 (keep_size (w:=w) (g:=g) (row:=none) zq103));have b3:=zqm (Kd.Q_lower f5 (keep_size (w:=w) (g:=g) (row:=none) zq103));replace HK:=zqm (KeepBut.trans zq103 hk (.inl rfl));replace HB:=zqm (hb);replace a0:=zqm (hi);clear hb hk hi f4 f5)|((with_reducible refine gate_dst (N:=7) rfl ?_);refine box_event ?hg (N:=7) ?hd (cs:= #[.slice none 0 0,.slice none 0 0]) (t:=26) ?hr ?_;(case hd=>rfl);(case hg=>rfl);(case hr=>first|(go_simp;done)|(go_simp;rfl));intro a2 hg d1 hbox hb;replace b2:=zqm (Kd.S_below zq123 hb);replace b3:=zqm (Kd.Q_below zq122 hb);have d9:=zqm (IsS110.below zq132 hb);have e0:=zqm (blk_below (g:=a5) (o:= .cells #[.slice none 0 0,.slice none 0 0] 26 (0,0)) zq8 hb);have e1:=zqm (KeepBut.trans zq103 (KeepBut.of_below hb g none) (.inl rfl));replace HB:=zqm (below_step zq261 hb);have a3:=zqm (hbox);have d0:=zqm ((by rw [hg];exact(keep_size (w:=w) (g:=g) (row:=none) zq103):w.heap.size≤a2));have c9:=zqm ((Nat.le_trans f3.out (by rw [hg];exact(keep_size (w:=w) (g:=g) (row:=none) zq103):w.heap.size≤a2):w0.heap.size≤a2));have c1:=zqm ((by rw [hg];exact Nat.ne_of_lt (blk_lt (g:=a5) (o:= .cells #[.slice none 0 0,.slice none 0 0] 26 (0,0)) zq8):a5≠a2));have b8:=zqm ((by rw [hg];exact Nat.ne_of_gt (blk_lt (g:=a5) (o:= .cells #[.slice none 0 0,.slice none 0 0] 26 (0,0)) zq8):a2≠a5));have a9:=zqm ((by rw [hg];exact Nat.ne_of_lt (IsS110.lt (show IsS110 w0 _ g s0_0 c6 from by repeat(first|(with_reducible first|exact a0.out|apply IsS110.alloc|apply IsS110.drewN|apply IsS110.drew|apply IsS110.set_1|refine IsS110.far ?_ a7.out _)|exact a0.out))):g≠a2));have c5:=zqm ((by rw [hg];exact Nat.ne_of_gt (IsS110.lt (show IsS110 w0 _ g s0_0 c6 from by repeat(first|(with_reducible first|exact a0.out|apply IsS110.alloc|apply IsS110.drewN|apply IsS110.drew|apply IsS110.set_1|refine IsS110.far ?_ a7.out _)|exact a0.out))):a2≠g));clear a0 a4 HK;have a0:=d9;have a4:=e0;have HK:=e1;clear d9 e0 e1 hb hbox hg;obtain⟨b0,b1,f7⟩:=Kd.S_slice b2.out;subst f7;have g5:=b8.out;have g7:=c1.out;have g6:=c5.out;have g8:=a9.out;have f9:d1.cell? ⟨a2,0,none⟩=some (.slice none 0 0):=(blk_cell a3.out 0).trans rfl;have g0:d1.cell? ⟨a2,1,none⟩=some (.slice none 0 0):=(blk_cell a3.out 1).trans rfl;have g1:=blk_frozen a3.out 0;have g2:=blk_frozen a3.out 1;obtain⟨b5,b6,f8,_⟩:=Kd.Q_slice b3.out;subst f8)))
 have d7:Aside0 (Kd.S (Kd.slice 3 (Kd.int .i64)) 24 ((d1.setCell ⟨a2,0,none⟩ (.slice b0 a8.length b1)).setCell ⟨a2,1,none⟩ (.slice b5 a6.length b6)) w.heap.size (fun k_=>some k_≠(.slice b5 a6.length b6:Value).ownBlock) (.slice b0 a8.length b1) a8):=⟨by(with_reducible repeat(first|apply Kd.S_alloc|apply Kd.S_drewN|apply Kd.S_drew));exact Kd.S_mono (Kd.S_far (p:=⟨a2,1,none⟩) (Kd.S_far (p:=⟨a2,0,none⟩) (Kd.S_types b2.out a3.out (by decide)) (fun _ hk=>hk.2) (.slice b0 a8.length b1)) (fun _ hk=>hk.2) (.slice b5 a6.length b6)) (fun _ hk=>hk.1)⟩;have d8:Aside0 (Kd.Q (Kd.int .i64) 3 ((d1.setCell ⟨a2,0,none⟩ (.slice b0 a8.length b1)).setCell ⟨a2,1,none⟩ (.slice b5 a6.length b6)) w.heap.size (fun _=>True) (.slice b5 a6.length b6) a6):=⟨by(with_reducible repeat(first|apply Kd.Q_alloc|apply Kd.Q_drewN|apply Kd.Q_drew));exact Kd.Q_mono (Kd.Q_far (p:=⟨a2,1,none⟩) (Kd.Q_far (p:=⟨a2,0,none⟩) (Kd.Q_types b3.out a3.out (by decide)) (fun _ hk=>hk.2) (.slice b0 a8.length b1)) (fun _ hk=>hk.2) (.slice b5 a6.length b6)) (fun _ hk=>trivial)⟩;have d9:Aside0 (((d1.setCell ⟨a2,0,none⟩ (.slice b0 a8.length b1)).setCell ⟨a2,1,none⟩ (.slice b5 a6.length b6)).heap[a5]? =some (.cells #[.slice none 0 0,.slice none 0 0] 26 (0,0))):=⟨zq129⟩;have e0:Aside0 (((d1.setCell ⟨a2,0,none⟩ (.slice b0 a8.length b1)).setCell ⟨a2,1,none⟩ (.slice b5 a6.length b6)).heap[a2]? =some (.cells #[.slice b0 a8.length b1,.slice b5 a6.length b6] 26 (0,0))):=⟨by(with_reducible repeat(first|refine blk_drewN ?_ _|refine blk_drew ?_|refine blk_alloc ?_ _));refine blk_put (cs:= #[.slice b0 a8.length b1,.slice none 0 0]) ?_ 1 _ rfl;(with_reducible repeat(first|refine blk_drewN ?_ _|refine blk_drew ?_|refine blk_alloc ?_ _));refine blk_put (cs:= #[.slice none 0 0,.slice none 0 0]) ?_ 0 _ rfl;(with_reducible repeat(first|refine blk_drewN ?_ _|refine blk_drew ?_|refine blk_alloc ?_ _));exact a3.out⟩;have e1:Aside0 (IsS110 w0 ((d1.setCell ⟨a2,0,none⟩ (.slice b0 a8.length b1)).setCell ⟨a2,1,none⟩ (.slice b5 a6.length b6)) g s0_0 c6):=⟨zq83⟩;have e4:Aside0 (KeepBut w ((d1.setCell ⟨a2,0,none⟩ (.slice b0 a8.length b1)).setCell ⟨a2,1,none⟩ (.slice b5 a6.length b6)) g none):=⟨zq90⟩;have e5:Aside0 (Below w0.heap.size w0 ((d1.setCell ⟨a2,0,none⟩ (.slice b0 a8.length b1)).setCell ⟨a2,1,none⟩ (.slice b5 a6.length b6))):=⟨zq77⟩;generalize ((d1.setCell ⟨a2,0,none⟩ (.slice b0 a8.length b1)).setCell ⟨a2,1,none⟩ (.slice b5 a6.length b6))=g3 at d7 d8 d9 e0 e1 e4 e5 ⊢;have b2:=d7;have b3:=d8;have a4:=d9;have a3:=e0;have a0:=e1;have HK:=e4;have HB:=e5;clear d7 d8 d9 e0 e1 e4 e5;replace b2:=zqm (Kd.S_drew b2.out);replace b3:=zqm (Kd.Q_drew b3.out);replace a4:=zqm (blk_drew a4.out);replace a3:=zqm (blk_drew a3.out);replace a0:=zqm (IsS110.drew a0.out);replace HK:=zqm (keep_drew HK.out);replace HB:=zqm (below_drew1 HB.out);refine start_ (n:=20) (S:=fun w'=>w'.cell? ⟨a2,0,none⟩=some (.slice b0 a8.length b1)∧w'.cell? ⟨a2,1,none⟩=some (.slice b5 a6.length b6)) (ds:= []) (zqb 20 0) zqk rfl rfl ⟨(blk_cell a3.out 0).trans rfl,(blk_cell a3.out 1).trans rfl⟩ (fun hHeld=>?_);refine with_tabW spec_l20Two.tab3 spec_l20Two.bits3 (fun HT_ HW_=>?_);generalize g3.drew=h2 at b2 b3 a4 a3 a0 HK HB hHeld ⊢;refine pure_ (i:=1) (N:=some 17) (v:=?_) (a':=?_) (zqb 20 2) rfl rfl (any_of HT_.out zqk) (fun _ _ _ h=>h) (Or.inl ⟨by rfl,?_⟩) ?_ ?_;rotate_left
 ·exact zqt
 rotate_left
 ·exact zqs
 refine pure_ (i:=2) (N:=some 18) (v:=?_) (a':=?_) (zqb 20 6) rfl rfl (any_of HT_.out zqk) (fun _ _ _ h=>h) (Or.inl ⟨by rfl,?_⟩) ?_ ?_;rotate_left
 ·exact zqt
 rotate_left
 ·exact zqs
 refine pure_ (i:=4) (N:=some 20) (v:=?_) (a':=?_) (zqb 20 22) rfl rfl (any_of HT_.out zqk) (fun _ _ _ h=>h) (Or.inl ⟨by rfl,?_⟩) ?_ ?_;rotate_left
 ·exact zqt
 rotate_left
 ·exact zqs
 refine pure_ (i:=9) (N:=some 25) (v:=?_) (a':=?_) (zqb 20 534) rfl rfl (any_of HT_.out zqk) (fun _ _ _ h=>h) (Or.inl ⟨by rfl,?_⟩) ?_ ?_;rotate_left
 ·exact zqt
 rotate_left
 ·exact zqs
 refine pure_ (i:=10) (N:=some 26) (v:=?_) (a':=?_) (zqb 20 1558) rfl rfl (any_of HT_.out zqk) (fun _ _ _ h=>h) (Or.inl ⟨by rfl,?_⟩) ?_ ?_;rotate_left
 ·exact zqt
 rotate_left
 ·exact zqs
 refine pure_ (i:=12) (N:=some 28) (v:=?_) (a':=?_) (zqb 20 5654) rfl rfl (any_of HT_.out zqk) (fun _ _ _ h=>h) (Or.inl ⟨by rfl,?_⟩) ?_ ?_;rotate_left
 ·exact zqt
 rotate_left
 ·exact zqs
 refine take_ (i:=0) (N:=some 16) (v:=?_) (a':=?_) (zqb 20 5655) rfl rfl (take_ofW HT_.out HW_.out zqk) (fun _ _ _ h=>h) (Or.inl ⟨by rfl,?_⟩) hHeld ?_ ?_;rotate_left
 ·rintro w' ⟨s0,s1⟩;go_simp;with_reducible rfl
 rotate_left
 ·exact zqs
 refine one_ (i:=3) (N:=some 19) (zqb 20 5663) rfl rfl (one_of HT_.out zqk) (by decide) (fun K hK=>?_);refine goes_ Try.func91 zqk rfl #[.pointer (some ⟨g,0,none⟩),.int .i64 c8] (by rfl) rfl rfl zq279 ?_;(with_reducible refine(spec_l20Rd_pick.calls k g s0_0 c6 c8 d3 d4 w0 _ ?side1 ?side2 A5.out).mono ?_);(case side1=> exact zq83);(case side2=> exact zq77);rintro e h3 ⟨rfl,hi,hb,hk⟩;refine⟨_,rfl,?_⟩;replace a4:=zqm (KeepBut.blk hk (g':=a5) (o:= .cells #[.slice none 0 0,.slice none 0 0] 26 (0,0)) zq8 c4.out (by simp));replace b2:=zqm (Kd.S_mono (Kd.S_keep (IsS110.apartS (show IsS110 w0 _ g s0_0 c6 from by repeat(first|(with_reducible first|exact a0.out|apply IsS110.alloc|apply IsS110.drewN|apply IsS110.drew|apply IsS110.set_1|refine IsS110.far ?_ a7.out _|refine IsS110.far ?_ a9.out _)|exact a0.out)) zq123 (by decide)) hk (fun _ h=>h.2)) (fun _ h=>h.1));replace b3:=zqm (Kd.Q_mono (Kd.Q_keep (IsS110.apartQ (show IsS110 w0 _ g s0_0 c6 from by repeat(first|(with_reducible first|exact a0.out|apply IsS110.alloc|apply IsS110.drewN|apply IsS110.drew|apply IsS110.set_1|refine IsS110.far ?_ a7.out _|refine IsS110.far ?_ a9.out _)|exact a0.out)) zq122 (by decide)) hk (fun _ h=>h.2)) (fun _ h=>h.1));replace a3:=zqm (KeepBut.blk hk (g':=a2) (o:= .cells #[.slice b0 a8.length b1,.slice b5 a6.length b6] 26 (0,0)) zq246 c5.out (by simp));replace HK:=zqm (KeepBut.trans zq90 hk (.inl rfl));replace HB:=zqm (hb);replace a0:=zqm (hi);clear hb hk hi;refine hK.out _ _ ⟨(blk_cell a3.out 0).trans rfl,(blk_cell a3.out 1).trans rfl⟩ (fun hHeld=>?_);clear hK K;refine norm_ (a':=?_) ?_ ?_;rotate_left
 ·show Act.put _ (some 19) _=_;exact zqs
 refine one_ (i:=5) (N:=some 21) (zqb 20 5695) rfl rfl (one_of HT_.out zqk) (by decide) (fun K hK=>?_);refine goes_ Try.func91 zqk rfl #[.pointer (some ⟨g,0,none⟩),.int .i64 40] (by rfl) rfl rfl zq1 ?_;(with_reducible refine(spec_l20Rd_pick.calls k g s0_0 d4 40 e2 d5 w0 _ ?side1 ?side2 A6.out).mono ?_);(case side1=> exact zq83);(case side2=> exact zq77);rintro e h4 ⟨rfl,hi,hb,hk⟩;refine⟨_,rfl,?_⟩;replace a4:=zqm (KeepBut.blk hk (g':=a5) (o:= .cells #[.slice none 0 0,.slice none 0 0] 26 (0,0)) zq8 c4.out (by simp));replace b2:=zqm (Kd.S_mono (Kd.S_keep (IsS110.apartS (show IsS110 w0 _ g s0_0 d4 from by repeat(first|(with_reducible first|exact a0.out|apply IsS110.alloc|apply IsS110.drewN|apply IsS110.drew|apply IsS110.set_1|refine IsS110.far ?_ a7.out _|refine IsS110.far ?_ a9.out _)|exact a0.out)) zq123 (by decide)) hk (fun _ h=>h.2)) (fun _ h=>h.1));replace b3:=zqm (Kd.Q_mono (Kd.Q_keep (IsS110.apartQ (show IsS110 w0 _ g s0_0 d4 from by repeat(first|(with_reducible first|exact a0.out|apply IsS110.alloc|apply IsS110.drewN|apply IsS110.drew|apply IsS110.set_1|refine IsS110.far ?_ a7.out _|refine IsS110.far ?_ a9.out _)|exact a0.out)) zq122 (by decide)) hk (fun _ h=>h.2)) (fun _ h=>h.1));replace a3:=zqm (KeepBut.blk hk (g':=a2) (o:= .cells #[.slice b0 a8.length b1,.slice b5 a6.length b6] 26 (0,0)) zq246 c5.out (by simp));replace HK:=zqm (KeepBut.trans zq90 hk (.inl rfl));replace HB:=zqm (hb);replace a0:=zqm (hi);clear hb hk hi;refine hK.out _ _ ⟨(blk_cell a3.out 0).trans rfl,(blk_cell a3.out 1).trans rfl⟩ (fun hHeld=>?_);clear hK K;refine norm_ (a':=?_) ?_ ?_;rotate_left
 ·show Act.put _ (some 21) _=_;exact zqs
 refine pure_ (i:=6) (N:=some 22) (v:=?_) (a':=?_) (zqb 20 5759) rfl rfl (any_of HT_.out zqk) (fun _ _ _ h=>h) (Or.inl ⟨by rfl,?_⟩) ?_ ?_;rotate_left
 ·exact zqt
 rotate_left
 ·exact zqs
 refine pure_ (i:=7) (N:=some 23) (v:=?_) (a':=?_) (zqb 20 5887) rfl rfl (any_of HT_.out zqk) (fun _ _ _ h=>h) (Or.inl ⟨by rfl,?_⟩) ?_ ?_;rotate_left
 ·exact zqt
 rotate_left
 ·exact zqs
 refine pure_ (i:=8) (N:=some 24) (v:=?_) (a':=?_) (zqb 20 6143) rfl rfl (any_of HT_.out zqk) (fun _ _ _ h=>h) (Or.inl ⟨by rfl,?_⟩) ?_ ?_;rotate_left
 ·exact zqt
 rotate_left
 ·exact zqs
 refine one_ (i:=11) (N:=some 27) (zqb 20 8191) rfl rfl (one_of HT_.out zqk) (by decide) (fun K hK=>?_);refine goes_ Try.func91 zqk rfl #[.pointer (some ⟨g,0,none⟩),.int .i64 c8] (by rfl) rfl rfl zq279 ?_;(with_reducible refine(spec_l20Rd_pick.calls k g s0_0 d5 c8 e3 d6 w0 _ ?side1 ?side2 A7.out).mono ?_);(case side1=> exact zq83);(case side2=> exact zq77);rintro e h5 ⟨rfl,hi,hb,hk⟩;refine⟨_,rfl,?_⟩;replace a4:=zqm (KeepBut.blk hk (g':=a5) (o:= .cells #[.slice none 0 0,.slice none 0 0] 26 (0,0)) zq8 c4.out (by simp));replace b2:=zqm (Kd.S_mono (Kd.S_keep (IsS110.apartS (show IsS110 w0 _ g s0_0 d5 from by repeat(first|(with_reducible first|exact a0.out|apply IsS110.alloc|apply IsS110.drewN|apply IsS110.drew|apply IsS110.set_1|refine IsS110.far ?_ a7.out _|refine IsS110.far ?_ a9.out _)|exact a0.out)) zq123 (by decide)) hk (fun _ h=>h.2)) (fun _ h=>h.1));replace b3:=zqm (Kd.Q_mono (Kd.Q_keep (IsS110.apartQ (show IsS110 w0 _ g s0_0 d5 from by repeat(first|(with_reducible first|exact a0.out|apply IsS110.alloc|apply IsS110.drewN|apply IsS110.drew|apply IsS110.set_1|refine IsS110.far ?_ a7.out _|refine IsS110.far ?_ a9.out _)|exact a0.out)) zq122 (by decide)) hk (fun _ h=>h.2)) (fun _ h=>h.1));replace a3:=zqm (KeepBut.blk hk (g':=a2) (o:= .cells #[.slice b0 a8.length b1,.slice b5 a6.length b6] 26 (0,0)) zq246 c5.out (by simp));replace HK:=zqm (KeepBut.trans zq90 hk (.inl rfl));replace HB:=zqm (hb);replace a0:=zqm (hi);clear hb hk hi;refine hK.out _ _ ⟨(blk_cell a3.out 0).trans rfl,(blk_cell a3.out 1).trans rfl⟩ (fun hHeld=>?_);clear hK K;refine norm_ (a':=?_) ?_ ?_;rotate_left
 ·show Act.put _ (some 27) _=_;exact zqs
 refine one_ (i:=13) (N:=some 29) (zqb 20 16383) rfl rfl (one_of HT_.out zqk) (by decide) (fun K hK=>?_);refine goes_ Try.func91 zqk rfl #[.pointer (some ⟨g,0,none⟩),.int .i64 40] (by rfl) rfl rfl zq1 ?_;(with_reducible refine(spec_l20Rd_pick.calls k g s0_0 d6 40 e6 e7 w0 _ ?side1 ?side2 A8.out).mono ?_);(case side1=> exact zq83);(case side2=> exact zq77);rintro e f6 ⟨rfl,hi,hb,hk⟩;refine⟨_,rfl,?_⟩;replace a4:=zqm (KeepBut.blk hk (g':=a5) (o:= .cells #[.slice none 0 0,.slice none 0 0] 26 (0,0)) zq8 c4.out (by simp));replace b2:=zqm (Kd.S_mono (Kd.S_keep (IsS110.apartS (show IsS110 w0 _ g s0_0 d6 from by repeat(first|(with_reducible first|exact a0.out|apply IsS110.alloc|apply IsS110.drewN|apply IsS110.drew|apply IsS110.set_1|refine IsS110.far ?_ a7.out _|refine IsS110.far ?_ a9.out _)|exact a0.out)) zq123 (by decide)) hk (fun _ h=>h.2)) (fun _ h=>h.1));replace b3:=zqm (Kd.Q_mono (Kd.Q_keep (IsS110.apartQ (show IsS110 w0 _ g s0_0 d6 from by repeat(first|(with_reducible first|exact a0.out|apply IsS110.alloc|apply IsS110.drewN|apply IsS110.drew|apply IsS110.set_1|refine IsS110.far ?_ a7.out _|refine IsS110.far ?_ a9.out _)|exact a0.out)) zq122 (by decide)) hk (fun _ h=>h.2)) (fun _ h=>h.1));replace a3:=zqm (KeepBut.blk hk (g':=a2) (o:= .cells #[.slice b0 a8.length b1,.slice b5 a6.length b6] 26 (0,0)) zq246 c5.out (by simp));replace HK:=zqm (KeepBut.trans zq90 hk (.inl rfl));replace HB:=zqm (hb);replace a0:=zqm (hi);clear hb hk hi;refine hK.out _ _ ⟨(blk_cell a3.out 0).trans rfl,(blk_cell a3.out 1).trans rfl⟩ (fun hHeld=>?_);clear hK K;refine norm_ (a':=?_) ?_ ?_;rotate_left
 ·show Act.put _ (some 29) _=_;exact zqs
 refine pure_ (i:=14) (N:=some 30) (v:=?_) (a':=?_) (zqb 20 32767) rfl rfl (any_of HT_.out zqk) (fun _ _ _ h=>h) (Or.inl ⟨by rfl,?_⟩) ?_ ?_;rotate_left
 ·exact zqt
 rotate_left
 ·exact zqs
 refine pure_ (i:=15) (N:=some 31) (v:=?_) (a':=?_) (zqb 20 65535) rfl rfl (any_of HT_.out zqk) (fun _ _ _ h=>h) (Or.inl ⟨by rfl,?_⟩) ?_ ?_;rotate_left
 ·exact zqt
 rotate_left
 ·exact zqs
 refine pure_ (i:=16) (N:=some 32) (v:=?_) (a':=?_) (zqb 20 131071) rfl rfl (any_of HT_.out zqk) (fun _ _ _ h=>h) (Or.inl ⟨by rfl,?_⟩) ?_ ?_;rotate_left
 ·exact zqt
 rotate_left
 ·exact zqs
 refine one_ (i:=17) (N:=none) (zqb 20 262143) rfl rfl (one_of HT_.out zqk) (by decide) (fun K hK=>?_);have hs23:f6.cell? ⟨a5,0,none⟩=some (.slice none 0 0):=(blk_cell a4.out 0).trans rfl;have hfs23:=blk_frozen a4.out 0;have hns23_1:=b8.out;have hms23_1:=c1.out;have hs24:f6.cell? ⟨a5,1,none⟩=some (.slice none 0 0):=(blk_cell a4.out 1).trans rfl;have hfs24:=blk_frozen a4.out 1;have hns24_1:=b8.out;have hms24_1:=c1.out;refine skip_ (w1:=?_) (by rfl) rfl ?_ ?_;rotate_left
 ·go_simp;rfl
 refine hK.out _ _ ⟨((cell_far (p:=⟨a5,_,none⟩) b8.out _).trans (((cell_far (p:=⟨a5,_,none⟩) b8.out _).trans (hHeld.1)))),((cell_far (p:=⟨a5,_,none⟩) b8.out _).trans (((cell_far (p:=⟨a5,_,none⟩) b8.out _).trans (hHeld.2))))⟩ (fun hHeld=>?_);clear hK K;refine pure_ (i:=18) (N:=some 5) (v:=?_) (a':=?_) (zqb 20 524287) rfl rfl (any_of HT_.out zqk) (fun _ _ _ h=>h) (Or.inl ⟨by rfl,?_⟩) ?_ ?_;rotate_left
 ·exact zqt
 rotate_left
 ·exact zqs
 refine pure_ (i:=19) (N:=some 6) (v:=?_) (a':=?_) (zqb 20 1048575) rfl rfl (any_of HT_.out zqk) (fun _ _ _ h=>h) (Or.inl ⟨by rfl,?_⟩) ?_ ?_;rotate_left
 ·exact zqt
 rotate_left
 ·exact zqs
 refine done_ (done_of HT_.out zqk) ?_;(try go_wp2);refine bodyPost_ret (results_ctt rfl _ _ a5 26 #[.slice b0 a8.length b1,.slice b5 a6.length b6] (0,0) _ rfl (by(with_reducible repeat(first|refine blk_drewN ?_ _|refine blk_drew ?_|refine blk_alloc ?_ _));refine blk_put (cs:= #[.slice b0 a8.length b1,.slice none 0 0]) ?_ 1 _ rfl;(with_reducible repeat(first|refine blk_drewN ?_ _|refine blk_drew ?_|refine blk_alloc ?_ _));refine blk_put (cs:= #[.slice none 0 0,.slice none 0 0]) ?_ 0 _ rfl;(with_reducible repeat(first|refine blk_drewN ?_ _|refine blk_drew ?_|refine blk_alloc ?_ _));exact a4.out) Try.underlying26 rfl zqk) rfl ?_;exact⟨_,_,by first|rfl|(simp [errW_none,errW_some] <;> rfl)|(simp only [← c7];first|rfl|(simp [errW_none,errW_some] <;> rfl))|(simp [*,errW_none,errW_some] <;> rfl),by(with_reducible repeat(first|apply Kd.S_alloc|apply Kd.S_drewN|apply Kd.S_drew));exact Kd.S_mono (Kd.S_far (p:=⟨a5,1,none⟩) (Kd.S_far (p:=⟨a5,0,none⟩) (Kd.S_types b2.out a4.out (by decide)) (fun _ hk=>hk.2) (.slice b0 a8.length b1)) (fun _ hk=>hk.2) (.slice b5 a6.length b6)) (fun _ hk=>hk.1),by(with_reducible repeat(first|apply Kd.Q_alloc|apply Kd.Q_drewN|apply Kd.Q_drew));exact Kd.Q_mono (Kd.Q_far (p:=⟨a5,1,none⟩) (Kd.Q_far (p:=⟨a5,0,none⟩) (Kd.Q_types b3.out a4.out (by decide)) (fun _ hk=>hk.2) (.slice b0 a8.length b1)) (fun _ hk=>hk.2) (.slice b5 a6.length b6)) (fun _ hk=>trivial),zq83,zq77,zq90⟩
def spec_DrawBlocksWith.f (k : Nat) (l0 : List Int) : Option ((List (List Int)) × List Int × Int) := (spec_l20Open.f l0).bind fun bt581 => ((spec_l20Two.f k bt581.1 bt581.2 14).bind fun bt584 => (some (bt584.1, bt584.2.1, bt584.2.2.1)))
set_option maxHeartbeats 8000000 in
set_option maxRecDepth 100000 in
theorem spec_DrawBlocksWith.calls (k : Nat) (A0 : Option Addr) (c0 : Nat) (l0 : List Int) (r1 : List (List Int)) (r2 : List Int) (r3 : Int) (w : World) (hr0 : Kd.C (Kd.int .u8) w A0 l0.length l0) (hc0 : l0.length ≤ c0) (h : spec_DrawBlocksWith.f k l0 = some (r1, r2, r3)) :
  Calls Try.prog 22 #[.slice A0 l0.length c0] w fun e w' => ∃ v0_ v1_ : Value, e = .returned (.tuple #[.agg #[v0_, v1_], .int .i64 r3]) ∧ Kd.S (Kd.slice 3 (Kd.int .i64)) 24 w' w.heap.size (fun k_ => some k_ ≠ (v1_ : Value).ownBlock) v0_ r1 ∧ Kd.Q (Kd.int .i64) 3 w' w.heap.size (fun _ => True) v1_ r2 ∧ Below w.heap.size w w' := by
 have hu26:=Try.underlying26;have e7:=zqm hr0;have e6:=zqm hc0;clear hr0 hc0;have HB:=zqm (Below.refl w.heap.size w);have H:((spec_l20Open.f l0).bind fun c6=>((spec_l20Two.f k c6.1 c6.2 14).bind fun a6=>(some (a6.1,a6.2.1,a6.2.2.1))))=some (r1,r2,r3):=h;clear h;replace H:=Option.bind_eq_some_iff.mp H;obtain⟨⟨b6,c4⟩,c9,H⟩:=H;replace H:((spec_l20Two.f k b6 c4 14).bind fun a6=>(some (a6.1,a6.2.1,a6.2.2.1)))=some (r1,r2,r3):=H;have A2:=zqm c9;clear c9;replace H:=Option.bind_eq_some_iff.mp H;obtain⟨⟨a8,b0,c7,d7,c5⟩,d0,H⟩:=H;replace H:(some (a8,b0,c7))=some (r1,r2,r3):=H;have A3:=zqm d0;clear d0;simp only [Option.some.injEq,Prod.mk.injEq] at H;obtain⟨rfl,rfl,rfl⟩:=H
 go_enter Try.func22,Try.ntmps22
 go_wp2_with (first|((with_reducible refine gate_dst (N:=2) rfl ?_);refine box_event ?hg (N:=2) ?hd (cs:= #[.slice none 0 0,.slice none 0 0]) (t:=26) ?hr ?_;(case hd=>rfl);(case hg=>rfl);(case hr=>first|(go_simp;done)|(go_simp;rfl));intro a2 hg w4 hbox hb;have c3:=zqm (below_step zq0 hb);have a0:=zqm (hbox);have e9:=zqm ((by rw [hg];exact(below_size zq0):w.heap.size≤a2));have a5:=zqm ((by rw [hg];exact(below_size zq0):w.heap.size≤a2));clear HB;have HB:=c3;clear c3 hb hbox hg)|((with_reducible refine gate_callee (f:=69) rfl ?_);refine goesL_ (some 9) rfl rfl Try.func69 zqk rfl #[.slice A0 l0.length c0] rfl zq1 ?_;(with_reducible refine(spec_l20Open.calls _ _ l0 b6 c4 w _ ?side1 ?side2 ?side3 A2.out).mono ?_);(case side1=> exact zq9);(case side2=>exact e7.out);(case side3=>exact e6.out);rintro e w5 ⟨g583,rfl,hi,hb,hb2⟩;refine⟨_,rfl,?_⟩;have c3:=zqm (blk_below (g:=a2) (o:= .cells #[.slice none 0 0,.slice none 0 0] 26 (0,0)) zq2 hb2);replace HB:=zqm (hb);have a1:=zqm (hi);have a4:=zqm (IsS110.ne_blk hi (blk_below (g:=a2) (o:= .cells #[.slice none 0 0,.slice none 0 0] 26 (0,0)) zq2 hb2) (by decide));have b1:=zqm (Ne.symm (IsS110.ne_blk hi (blk_below (g:=a2) (o:= .cells #[.slice none 0 0,.slice none 0 0] 26 (0,0)) zq2 hb2) (by decide)));clear a0;have a0:=c3;clear c3 hb hb2 hi)|((with_reducible refine gate_callee (f:=86) rfl ?_);refine goesL_ (some 12) rfl rfl Try.func86 zqk rfl #[.pointer (some ⟨g583,0,none⟩),.int .i64 14] rfl zq1 ?_;(with_reducible refine(spec_l20Two.calls k g583 b6 c4 14 a8 b0 c7 d7 c5 w _ ?side1 ?side2 A3.out).mono ?_);(case side1=> exact zq269);(case side2=> exact zq93);rintro e w6 ⟨f7,f8,rfl,d1,d2,hi,hb,hk⟩;refine⟨_,rfl,?_⟩;replace a0:=zqm (KeepBut.blk hk (g':=a2) (o:= .cells #[.slice none 0 0,.slice none 0 0] 26 (0,0)) zq2 b1.out (by simp));have b2:=zqm (Kd.S_lower d1 (below_size zq93));have b3:=zqm (Kd.Q_lower d2 (below_size zq93));replace HB:=zqm (hb);replace a1:=zqm (hi);clear hb hk hi d1 d2)|((with_reducible refine gate_dst (N:=5) rfl ?_);refine box_event ?hg (N:=5) ?hd (cs:= #[.slice none 0 0,.slice none 0 0]) (t:=26) ?hr ?_;(case hd=>rfl);(case hg=>rfl);(case hr=>first|(go_simp;done)|(go_simp;rfl));intro a3 hg w7 hbox hb;replace b2:=zqm (Kd.S_below zq123 hb);replace b3:=zqm (Kd.Q_below zq122 hb);have d3:=zqm (blk_below (g:=a2) (o:= .cells #[.slice none 0 0,.slice none 0 0] 26 (0,0)) zq2 hb);have d4:=zqm (IsS110.below zq269 hb);have d5:=zqm (below_step zq93 hb);have a9:=zqm (hbox);have f0:=zqm ((by rw [hg];exact(below_size zq93):w.heap.size≤a3));have c8:=zqm ((by rw [hg];exact(below_size zq93):w.heap.size≤a3));have a7:=zqm ((by rw [hg];exact Nat.ne_of_lt (blk_lt (g:=a2) (o:= .cells #[.slice none 0 0,.slice none 0 0] 26 (0,0)) zq2):a2≠a3));have c1:=zqm ((by rw [hg];exact Nat.ne_of_gt (blk_lt (g:=a2) (o:= .cells #[.slice none 0 0,.slice none 0 0] 26 (0,0)) zq2):a3≠a2));have b9:=zqm ((by rw [hg];exact Nat.ne_of_lt (IsS110.lt (show IsS110 w _ g583 b6 c5 from by repeat(first|(with_reducible first|exact a1.out|apply IsS110.alloc|apply IsS110.drewN|apply IsS110.drew|apply IsS110.set_1|refine IsS110.far ?_ a4.out _)|exact a1.out))):g583≠a3));have c2:=zqm ((by rw [hg];exact Nat.ne_of_gt (IsS110.lt (show IsS110 w _ g583 b6 c5 from by repeat(first|(with_reducible first|exact a1.out|apply IsS110.alloc|apply IsS110.drewN|apply IsS110.drew|apply IsS110.set_1|refine IsS110.far ?_ a4.out _)|exact a1.out))):a3≠g583));clear a0 a1 HB;have a0:=d3;have a1:=d4;have HB:=d5;clear d3 d4 d5 hb hbox hg;obtain⟨b7,b8,e8⟩:=Kd.S_slice b2.out;subst e8;have f5:=c1.out;have f6:=a7.out;have f1:=c2.out;have f3:=b9.out;have d8:w7.cell? ⟨a3,0,none⟩=some (.slice none 0 0):=(blk_cell a9.out 0).trans rfl;have d9:w7.cell? ⟨a3,1,none⟩=some (.slice none 0 0):=(blk_cell a9.out 1).trans rfl;have e2:=blk_frozen a9.out 0;have e3:=blk_frozen a9.out 1;obtain⟨b4,b5,d6,_⟩:=Kd.Q_slice b3.out;subst d6;have f2:=b1.out;have f4:=a4.out;have e0:w7.cell? ⟨a2,0,none⟩=some (.slice none 0 0):=(blk_cell a0.out 0).trans rfl;have e1:w7.cell? ⟨a2,1,none⟩=some (.slice none 0 0):=(blk_cell a0.out 1).trans rfl;have e4:=blk_frozen a0.out 0;have e5:=blk_frozen a0.out 1))
 refine bodyPost_ret (results_ct rfl _ _ a2 26 #[.slice b7 a8.length b8,.slice b4 b0.length b5] (0,0) _ rfl (by(with_reducible repeat(first|refine blk_drewN ?_ _|refine blk_drew ?_|refine blk_alloc ?_ _));refine blk_put (cs:= #[.slice b7 a8.length b8,.slice none 0 0]) ?_ 1 _ rfl;(with_reducible repeat(first|refine blk_drewN ?_ _|refine blk_drew ?_|refine blk_alloc ?_ _));refine blk_put (cs:= #[.slice none 0 0,.slice none 0 0]) ?_ 0 _ rfl;(with_reducible repeat(first|refine blk_drewN ?_ _|refine blk_drew ?_|refine blk_alloc ?_ _));refine blk_far ?_ a7.out _;(with_reducible repeat(first|refine blk_drewN ?_ _|refine blk_drew ?_|refine blk_alloc ?_ _));refine blk_far ?_ a7.out _;(with_reducible repeat(first|refine blk_drewN ?_ _|refine blk_drew ?_|refine blk_alloc ?_ _));exact a0.out) Try.underlying26 rfl zqk) rfl ?_;exact⟨_,_,zq11,by(with_reducible repeat(first|apply Kd.S_alloc|apply Kd.S_drewN|apply Kd.S_drew));exact Kd.S_mono (Kd.S_far (p:=⟨a2,1,none⟩) (Kd.S_far (p:=⟨a2,0,none⟩) (Kd.S_far (p:=⟨a3,1,none⟩) (Kd.S_far (p:=⟨a3,0,none⟩) (Kd.S_types (Kd.S_types b2.out a9.out (by decide)) a0.out (by decide)) (fun _ hk=>hk.1.2) (.slice b7 a8.length b8)) (fun _ hk=>hk.1.2) (.slice b4 b0.length b5)) (fun _ hk=>hk.2) (.slice b7 a8.length b8)) (fun _ hk=>hk.2) (.slice b4 b0.length b5)) (fun _ hk=>hk.1.1),by(with_reducible repeat(first|apply Kd.Q_alloc|apply Kd.Q_drewN|apply Kd.Q_drew));exact Kd.Q_mono (Kd.Q_far (p:=⟨a2,1,none⟩) (Kd.Q_far (p:=⟨a2,0,none⟩) (Kd.Q_far (p:=⟨a3,1,none⟩) (Kd.Q_far (p:=⟨a3,0,none⟩) (Kd.Q_types (Kd.Q_types b3.out a9.out (by decide)) a0.out (by decide)) (fun _ hk=>hk.1.2) (.slice b7 a8.length b8)) (fun _ hk=>hk.1.2) (.slice b4 b0.length b5)) (fun _ hk=>hk.2) (.slice b7 a8.length b8)) (fun _ hk=>hk.2) (.slice b4 b0.length b5)) (fun _ hk=>trivial),by repeat(first|(with_reducible first|exact HB.out|apply below_alloc|apply pw_below_drewN|apply below_drew1|refine below_set ?_ (IsS110.ge a1.out)|refine below_set ?_ a5.out|refine below_set ?_ c8.out)|exact HB.out)⟩
def spec_l5With.f (k : Nat) (l0_0 : List (List Int)) (l0_1 : List Int) (a1 : Int) (a2 : Int) : Option (Bool) := (spec_l1Meet.f k l0_0 a1 a2).bind fun t595 => (if 0 ≤ a2 then (if a2 < (l0_1.length : Int) then ((spec_l1Meet.f k l0_0 a1 (rd l0_1 a2)).bind fun t597 => ((spec_l1Join.f k l0_0 t595 t597).bind fun t598 => (some (t598 == a1)))) else (none)) else (none))
set_option maxHeartbeats 8000000 in
set_option maxRecDepth 100000 in
theorem spec_l5With.calls (k : Nat) (A0_0 : Option Addr) (c0_0 : Nat) (l0_0 : List (List Int)) (A0_1 : Option Addr) (c0_1 : Nat) (l0_1 : List Int) (a1 : Int) (a2 : Int) (r : Bool) (w : World) (hr0_0 : Kd.C (Kd.slice 3 (Kd.int .i64)) w A0_0 l0_0.length l0_0) (hc0_0 : l0_0.length ≤ c0_0) (hr0_1 : Kd.C (Kd.int .i64) w A0_1 l0_1.length l0_1) (hc0_1 : l0_1.length ≤ c0_1) (h : spec_l5With.f k l0_0 l0_1 a1 a2 = some r) :
  Calls Try.prog 100 #[.agg #[.slice A0_0 l0_0.length c0_0, .slice A0_1 l0_1.length c0_1], .int .i64 a1, .int .i64 a2] w fun e w' => e = .returned (.bool r) ∧ Below w.heap.size w w' := by
 have hu26:=Try.underlying26;have a7:=zqm hr0_0;have a6:=zqm hc0_0;clear hr0_0 hc0_0;have b9:=zqm hr0_1;have c7:=zqm hc0_1;clear hr0_1 hc0_1;have HB:=zqm (Below.refl w.heap.size w);have H:((spec_l1Meet.f k l0_0 a1 a2).bind fun b1=>(if 0≤a2 then(if a2<(l0_1.length:Int) then((spec_l1Meet.f k l0_0 a1 (rd l0_1 a2)).bind fun b0=>((spec_l1Join.f k l0_0 b1 b0).bind fun b2=>(some (b2==a1)))) else(none)) else(none)))=some r:=h;clear h;replace H:=Option.bind_eq_some_iff.mp H;obtain⟨b1,c2,H⟩:=H;replace H:(if 0≤a2 then(if a2<(l0_1.length:Int) then((spec_l1Meet.f k l0_0 a1 (rd l0_1 a2)).bind fun b0=>((spec_l1Join.f k l0_0 b1 b0).bind fun b2=>(some (b2==a1)))) else(none)) else(none))=some r:=H;have A4:=zqm c2;clear c2
 by_cases c5:0≤a2
 ·rw [if_pos c5] at H;have c8:decide (0≤a2)=true:=decide_eq_true c5;clear c5
  by_cases c6:a2<(l0_1.length:Int)
  ·rw [if_pos c6] at H;have c9:decide (a2<(l0_1.length:Int))=true:=decide_eq_true c6;clear c6;replace H:=Option.bind_eq_some_iff.mp H;obtain⟨b0,c3,H⟩:=H;replace H:((spec_l1Join.f k l0_0 b1 b0).bind fun b2=>(some (b2==a1)))=some r:=H;have A7:=zqm c3;clear c3;replace H:=Option.bind_eq_some_iff.mp H;obtain⟨b2,c4,H⟩:=H;replace H:(some (b2==a1))=some r:=H;have A8:=zqm c4;clear c4;obtain rfl:=Option.some.inj H
   go_enter Try.func100,Try.ntmps100
   go_wp2_with (first|((with_reducible refine gate_dst (N:=3) rfl ?_);refine box_event ?hg (N:=3) ?hd (cs:= #[.slice A0_0 l0_0.length c0_0,.slice A0_1 l0_1.length c0_1]) (t:=26) ?hr ?_;(case hd=>rfl);(case hg=>rfl);(case hr=>first|(go_simp;done)|(go_simp;rfl));intro a4 hg w9 hbox hb;have b3:=zqm (below_step zq0 hb);have a3:=zqm (hbox);have c0:=zqm ((by rw [hg];exact(below_size zq0):w.heap.size≤a4));have a5:=zqm ((by rw [hg];exact(below_size zq0):w.heap.size≤a4));clear HB;have HB:=b3;clear b3 hb hbox hg;have b5:w9.cell? ⟨a4,0,none⟩=some (.slice A0_0 l0_0.length c0_0):=(blk_cell a3.out 0).trans rfl;have b6:w9.cell? ⟨a4,1,none⟩=some (.slice A0_1 l0_1.length c0_1):=(blk_cell a3.out 1).trans rfl;have b7:=blk_frozen a3.out 0;have b8:=blk_frozen a3.out 1)|(go_at_call 80;(with_reducible refine(spec_l1Meet.calls k _ _ l0_0 a1 a2 b1 _ ?side1 ?side2 A4.out).mono ?_);(case side1=> exact zq87);(case side2=>exact a6.out);rintro e w' ⟨rfl,⟨nd,rfl⟩⟩;(try first|exact⟨rfl,_,World.drewN_drewN _ _ _⟩|exact⟨rfl,_,Eq.trans (World.drewN_drewN _ _ _) (congrArg (World.drewN _) (Nat.add_assoc _ _ _))⟩);have a8:0≤(a2:Int):=zqo;have a9:a2<(l0_1.length:Int):=zqo;obtain⟨c1,b4,a0⟩:=Kd.at_int b9.out a2 a8 a9;cases b4;replace a0:=(HB.out.cell (World.block_lt_of_cell? w _ a0)).trans a0;replace a8:=eq_true a8;replace a9:=eq_true a9)|(go_at_call 80;(with_reducible refine(spec_l1Meet.calls k _ _ l0_0 a1 (rd l0_1 a2) b0 _ ?side1 ?side2 A7.out).mono ?_);(case side1=> exact zq59);(case side2=>exact a6.out);rintro e w' ⟨rfl,⟨nd,rfl⟩⟩;(try first|exact⟨rfl,_,World.drewN_drewN _ _ _⟩|exact⟨rfl,_,Eq.trans (World.drewN_drewN _ _ _) (congrArg (World.drewN _) (Nat.add_assoc _ _ _))⟩))|(go_at_call 94;(with_reducible refine(spec_l1Join.calls k _ _ l0_0 b1 b0 b2 _ ?side1 ?side2 A8.out).mono ?_);(case side1=> exact zq59);(case side2=>exact a6.out);rintro e w' ⟨rfl,⟨nd,rfl⟩⟩;(try first|exact⟨rfl,_,World.drewN_drewN _ _ _⟩|exact⟨rfl,_,Eq.trans (World.drewN_drewN _ _ _) (congrArg (World.drewN _) (Nat.add_assoc _ _ _))⟩)))
   repeat(go_quiet (first|((with_reducible refine gate_dst (N:=3) rfl ?_);refine box_event ?hg (N:=3) ?hd (cs:= #[.slice A0_0 l0_0.length c0_0,.slice A0_1 l0_1.length c0_1]) (t:=26) ?hr ?_;(case hd=>rfl);(case hg=>rfl);(case hr=>first|(go_simp;done)|(go_simp;rfl));intro a4 hg w9 hbox hb;have b3:=zqm (below_step zq0 hb);have a3:=zqm (hbox);have c0:=zqm ((by rw [hg];exact(below_size zq0):w.heap.size≤a4));have a5:=zqm ((by rw [hg];exact(below_size zq0):w.heap.size≤a4));clear HB;have HB:=b3;clear b3 hb hbox hg;have b5:w9.cell? ⟨a4,0,none⟩=some (.slice A0_0 l0_0.length c0_0):=(blk_cell a3.out 0).trans rfl;have b6:w9.cell? ⟨a4,1,none⟩=some (.slice A0_1 l0_1.length c0_1):=(blk_cell a3.out 1).trans rfl;have b7:=blk_frozen a3.out 0;have b8:=blk_frozen a3.out 1)|(go_at_call 80;(with_reducible refine(spec_l1Meet.calls k _ _ l0_0 a1 a2 b1 _ ?side1 ?side2 A4.out).mono ?_);(case side1=> exact zq87);(case side2=>exact a6.out);rintro e w' ⟨rfl,⟨nd,rfl⟩⟩;(try first|exact⟨rfl,_,World.drewN_drewN _ _ _⟩|exact⟨rfl,_,Eq.trans (World.drewN_drewN _ _ _) (congrArg (World.drewN _) (Nat.add_assoc _ _ _))⟩);have a8:0≤(a2:Int):=zqo;have a9:a2<(l0_1.length:Int):=zqo;obtain⟨c1,b4,a0⟩:=Kd.at_int b9.out a2 a8 a9;cases b4;replace a0:=(HB.out.cell (World.block_lt_of_cell? w _ a0)).trans a0;replace a8:=eq_true a8;replace a9:=eq_true a9)|(go_at_call 80;(with_reducible refine(spec_l1Meet.calls k _ _ l0_0 a1 (rd l0_1 a2) b0 _ ?side1 ?side2 A7.out).mono ?_);(case side1=> exact zq59);(case side2=>exact a6.out);rintro e w' ⟨rfl,⟨nd,rfl⟩⟩;(try first|exact⟨rfl,_,World.drewN_drewN _ _ _⟩|exact⟨rfl,_,Eq.trans (World.drewN_drewN _ _ _) (congrArg (World.drewN _) (Nat.add_assoc _ _ _))⟩))|(go_at_call 94;(with_reducible refine(spec_l1Join.calls k _ _ l0_0 b1 b0 b2 _ ?side1 ?side2 A8.out).mono ?_);(case side1=> exact zq59);(case side2=>exact a6.out);rintro e w' ⟨rfl,⟨nd,rfl⟩⟩;(try first|exact⟨rfl,_,World.drewN_drewN _ _ _⟩|exact⟨rfl,_,Eq.trans (World.drewN_drewN _ _ _) (congrArg (World.drewN _) (Nat.add_assoc _ _ _))⟩)));try go_wp2_with (first|((with_reducible refine gate_dst (N:=3) rfl ?_);refine box_event ?hg (N:=3) ?hd (cs:= #[.slice A0_0 l0_0.length c0_0,.slice A0_1 l0_1.length c0_1]) (t:=26) ?hr ?_;(case hd=>rfl);(case hg=>rfl);(case hr=>first|(go_simp;done)|(go_simp;rfl));intro a4 hg w9 hbox hb;have b3:=zqm (below_step zq0 hb);have a3:=zqm (hbox);have c0:=zqm ((by rw [hg];exact(below_size zq0):w.heap.size≤a4));have a5:=zqm ((by rw [hg];exact(below_size zq0):w.heap.size≤a4));clear HB;have HB:=b3;clear b3 hb hbox hg;have b5:w9.cell? ⟨a4,0,none⟩=some (.slice A0_0 l0_0.length c0_0):=(blk_cell a3.out 0).trans rfl;have b6:w9.cell? ⟨a4,1,none⟩=some (.slice A0_1 l0_1.length c0_1):=(blk_cell a3.out 1).trans rfl;have b7:=blk_frozen a3.out 0;have b8:=blk_frozen a3.out 1)|(go_at_call 80;(with_reducible refine(spec_l1Meet.calls k _ _ l0_0 a1 a2 b1 _ ?side1 ?side2 A4.out).mono ?_);(case side1=> exact zq87);(case side2=>exact a6.out);rintro e w' ⟨rfl,⟨nd,rfl⟩⟩;(try first|exact⟨rfl,_,World.drewN_drewN _ _ _⟩|exact⟨rfl,_,Eq.trans (World.drewN_drewN _ _ _) (congrArg (World.drewN _) (Nat.add_assoc _ _ _))⟩);have a8:0≤(a2:Int):=zqo;have a9:a2<(l0_1.length:Int):=zqo;obtain⟨c1,b4,a0⟩:=Kd.at_int b9.out a2 a8 a9;cases b4;replace a0:=(HB.out.cell (World.block_lt_of_cell? w _ a0)).trans a0;replace a8:=eq_true a8;replace a9:=eq_true a9)|(go_at_call 80;(with_reducible refine(spec_l1Meet.calls k _ _ l0_0 a1 (rd l0_1 a2) b0 _ ?side1 ?side2 A7.out).mono ?_);(case side1=> exact zq59);(case side2=>exact a6.out);rintro e w' ⟨rfl,⟨nd,rfl⟩⟩;(try first|exact⟨rfl,_,World.drewN_drewN _ _ _⟩|exact⟨rfl,_,Eq.trans (World.drewN_drewN _ _ _) (congrArg (World.drewN _) (Nat.add_assoc _ _ _))⟩))|(go_at_call 94;(with_reducible refine(spec_l1Join.calls k _ _ l0_0 b1 b0 b2 _ ?side1 ?side2 A8.out).mono ?_);(case side1=> exact zq59);(case side2=>exact a6.out);rintro e w' ⟨rfl,⟨nd,rfl⟩⟩;(try first|exact⟨rfl,_,World.drewN_drewN _ _ _⟩|exact⟨rfl,_,Eq.trans (World.drewN_drewN _ _ _) (congrArg (World.drewN _) (Nat.add_assoc _ _ _))⟩))))
   go_ret
   exact⟨zq11,zq9⟩
  ·rw [if_neg c6] at H;exact absurd H (by simp)
 ·rw [if_neg c5] at H;exact absurd H (by simp)
def spec_l6Agree.f (k : Nat) (l0_0 : List (List Int)) (l0_1 : List Int) (a1 : Int) (a2 : Int) : Option (Bool) := (spec_l5With.f k l0_0 l0_1 a1 a2).bind fun t600 => (if t600 = true then ((spec_l5With.f k l0_0 l0_1 a2 a1).bind fun t601 => (some t601)) else (some false))
set_option maxHeartbeats 8000000 in
set_option maxRecDepth 100000 in
theorem spec_l6Agree.calls (k : Nat) (A0_0 : Option Addr) (c0_0 : Nat) (l0_0 : List (List Int)) (A0_1 : Option Addr) (c0_1 : Nat) (l0_1 : List Int) (a1 : Int) (a2 : Int) (r : Bool) (w : World) (hr0_0 : Kd.C (Kd.slice 3 (Kd.int .i64)) w A0_0 l0_0.length l0_0) (hc0_0 : l0_0.length ≤ c0_0) (hr0_1 : Kd.C (Kd.int .i64) w A0_1 l0_1.length l0_1) (hc0_1 : l0_1.length ≤ c0_1) (h : spec_l6Agree.f k l0_0 l0_1 a1 a2 = some r) :
  Calls Try.prog 93 #[.agg #[.slice A0_0 l0_0.length c0_0, .slice A0_1 l0_1.length c0_1], .int .i64 a1, .int .i64 a2] w fun e w' => e = .returned (.bool r) ∧ Below w.heap.size w w' := by
 have hu26:=Try.underlying26;have a8:=zqm hr0_0;have a6:=zqm hc0_0;clear hr0_0 hc0_0;have a9:=zqm hr0_1;have a7:=zqm hc0_1;clear hr0_1 hc0_1;have HB:=zqm (Below.refl w.heap.size w);have H:((spec_l5With.f k l0_0 l0_1 a1 a2).bind fun b0=>(if b0=true then((spec_l5With.f k l0_0 l0_1 a2 a1).bind fun a4=>(some a4)) else(some false)))=some r:=h;clear h;replace H:=Option.bind_eq_some_iff.mp H;obtain⟨b0,b3,H⟩:=H;replace H:(if b0=true then((spec_l5With.f k l0_0 l0_1 a2 a1).bind fun a4=>(some a4)) else(some false))=some r:=H;have A4:=zqm b3;clear b3
 by_cases c5:b0=true
 ·subst c5;(have H1:((spec_l5With.f k l0_0 l0_1 a2 a1).bind fun a4=>(some a4))=some r:=by rw [if_pos rfl] at H;exact H);clear H;have H:=H1;clear H1;replace H:=Option.bind_eq_some_iff.mp H;obtain⟨a4,b4,H⟩:=H;replace H:(some a4)=some r:=H;have A6:=zqm b4;clear b4;obtain rfl:=Option.some.inj H
  go_enter Try.func93,Try.ntmps93
  go_wp2_with (first|((with_reducible refine gate_dst (N:=3) rfl ?_);refine box_event ?hg (N:=3) ?hd (cs:= #[.slice A0_0 l0_0.length c0_0,.slice A0_1 l0_1.length c0_1]) (t:=26) ?hr ?_;(case hd=>rfl);(case hg=>rfl);(case hr=>first|(go_simp;done)|(go_simp;rfl));intro a3 hg w7 hbox hb;have b1:=zqm (below_step zq0 hb);have a0:=zqm (hbox);have b2:=zqm ((by rw [hg];exact(below_size zq0):w.heap.size≤a3));have a5:=zqm ((by rw [hg];exact(below_size zq0):w.heap.size≤a3));clear HB;have HB:=b1;clear b1 hb hbox hg;have c4:w7.cell? ⟨a3,0,none⟩=some (.slice A0_0 l0_0.length c0_0):=(blk_cell a0.out 0).trans rfl;have c6:w7.cell? ⟨a3,1,none⟩=some (.slice A0_1 l0_1.length c0_1):=(blk_cell a0.out 1).trans rfl;have c7:=blk_frozen a0.out 0;have c8:=blk_frozen a0.out 1)|((with_reducible refine gate_callee (f:=100) rfl ?_);refine goesL_ (some 10) rfl rfl Try.func100 zqk rfl #[.agg #[.slice A0_0 l0_0.length c0_0,.slice A0_1 l0_1.length c0_1],.int .i64 a1,.int .i64 a2] rfl zq1 ?_;(with_reducible refine(spec_l5With.calls k _ _ l0_0 _ _ l0_1 a1 a2 true _ ?side1 ?side2 ?side3 ?side4 A4.out).mono ?_);(case side1=> exact zq234);(case side2=>exact a6.out);(case side3=> exact zq116);(case side4=>exact a7.out);rintro e w9 ⟨rfl,hb⟩;refine⟨_,rfl,?_⟩;replace a0:=zqm (blk_below (g:=a3) (o:= .cells #[.slice A0_0 l0_0.length c0_0,.slice A0_1 l0_1.length c0_1] 26 (0,0)) zq2 hb);replace HB:=zqm (below_step zq9 hb);clear hb;have b6:w9.cell? ⟨a3,0,none⟩=some (.slice A0_0 l0_0.length c0_0):=(blk_cell a0.out 0).trans rfl;have b7:w9.cell? ⟨a3,1,none⟩=some (.slice A0_1 l0_1.length c0_1):=(blk_cell a0.out 1).trans rfl;have c0:=blk_frozen a0.out 0;have c1:=blk_frozen a0.out 1)|(go_at_call 100;(with_reducible refine(spec_l5With.calls k _ _ l0_0 _ _ l0_1 a2 a1 a4 _ ?side1 ?side2 ?side3 ?side4 A6.out).mono ?_);(case side1=> exact zq234);(case side2=>exact a6.out);(case side3=> exact zq116);(case side4=>exact a7.out);rintro e c9 ⟨rfl,hb⟩;replace a0:=zqm (blk_below (g:=a3) (o:= .cells #[.slice A0_0 l0_0.length c0_0,.slice A0_1 l0_1.length c0_1] 26 (0,0)) zq2 hb);replace HB:=zqm (below_step zq9 hb);clear hb))
  go_ret
  exact⟨zq11,zq9⟩
 ·replace c5:=Bool.eq_false_iff.mpr c5;subst c5;(have H1:(some false)=some r:=by rw [if_neg (show¬(false=true) by decide)] at H;exact H);clear H;have H:=H1;clear H1;obtain rfl:=Option.some.inj H
  go_enter Try.func93,Try.ntmps93
  go_wp2_with (first|((with_reducible refine gate_dst (N:=3) rfl ?_);refine box_event ?hg (N:=3) ?hd (cs:= #[.slice A0_0 l0_0.length c0_0,.slice A0_1 l0_1.length c0_1]) (t:=26) ?hr ?_;(case hd=>rfl);(case hg=>rfl);(case hr=>first|(go_simp;done)|(go_simp;rfl));intro a3 hg b5 hbox hb;have b1:=zqm (below_step zq0 hb);have a0:=zqm (hbox);have b2:=zqm ((by rw [hg];exact(below_size zq0):w.heap.size≤a3));have a5:=zqm ((by rw [hg];exact(below_size zq0):w.heap.size≤a3));clear HB;have HB:=b1;clear b1 hb hbox hg;have b8:b5.cell? ⟨a3,0,none⟩=some (.slice A0_0 l0_0.length c0_0):=(blk_cell a0.out 0).trans rfl;have b9:b5.cell? ⟨a3,1,none⟩=some (.slice A0_1 l0_1.length c0_1):=(blk_cell a0.out 1).trans rfl;have c2:=blk_frozen a0.out 0;have c3:=blk_frozen a0.out 1)|((with_reducible refine gate_callee (f:=100) rfl ?_);refine goesL_ (some 10) rfl rfl Try.func100 zqk rfl #[.agg #[.slice A0_0 l0_0.length c0_0,.slice A0_1 l0_1.length c0_1],.int .i64 a1,.int .i64 a2] rfl zq1 ?_;(with_reducible refine(spec_l5With.calls k _ _ l0_0 _ _ l0_1 a1 a2 false _ ?side1 ?side2 ?side3 ?side4 A4.out).mono ?_);(case side1=> exact zq234);(case side2=>exact a6.out);(case side3=> exact zq116);(case side4=>exact a7.out);rintro e d0 ⟨rfl,hb⟩;refine⟨_,rfl,?_⟩;replace a0:=zqm (blk_below (g:=a3) (o:= .cells #[.slice A0_0 l0_0.length c0_0,.slice A0_1 l0_1.length c0_1] 26 (0,0)) zq2 hb);replace HB:=zqm (below_step zq9 hb);clear hb))
  go_ret
  exact⟨zq11,zq9⟩
end Go.Proofs.Ytcbjpdaogicibaa.Print
end
section
namespace Go.Proofs.Ytcbjpdaogicibaa.Print
open Go.RowKit Go.Proofs.YtcbjpdaogicibaaW.PrintWords Go.Proofs.YtcbjpdaogicibaaW.PrintLast Go.Proofs.YtcbjpdaogicibaaW.PrintMore
mutual
def spec_BlocksOf.l0 : Nat → List Int → Int → List Int → Int → List (List Int) → List Int → Option (List Int)
 | 0, _, _, _, _, _, _ => none
 | k + 1, x3, x4, x5, x6, x603000, x603001 => if x6 < x4 then (spec_BlocksOf.l1 k x3 x4 x5 x6 0 0 x603000 x603001) else (spec_BlocksOf.l2 k x3 x4 x5 1)
def spec_BlocksOf.l1 : Nat → List Int → Int → List Int → Int → Int → Int → List (List Int) → List Int → Option (List Int)
 | 0, _, _, _, _, _, _, _, _ => none
 | k + 1, x3, x4, x5, x6, x7, x8, x603000, x603001 => if x8 < x4 then ((spec_l6Agree.f k x603000 x603001 x6 x8).bind fun t610 => (if t610 = true then (if 0 ≤ x8 then (spec_BlocksOf.l1 k x3 x4 x5 x6 (Go.bits .or .i64 x7 (shl .i64 1 x8)) (wrap64 (x8 + 1)) x603000 x603001) else (none)) else (spec_BlocksOf.l1 k x3 x4 x5 x6 x7 (wrap64 (x8 + 1)) x603000 x603001))) else (if x5.length < 17592186044416 then (spec_BlocksOf.l0 k x3 x4 (x5 ++ [x7]) (wrap64 (x6 + 1)) x603000 x603001) else (none))
def spec_BlocksOf.l2 : Nat → List Int → Int → List Int → Int → Option (List Int)
 | 0, _, _, _, _ => none
 | k + 1, x3, x4, x5, x9 => if 0 ≤ x4 then (if x9 < (shl .i64 1 x4) then (spec_BlocksOf.l3 k x3 x4 x5 x9 (wrap64 ((shl .i64 1 x4) - 1)) 0) else (some x3)) else (none)
def spec_BlocksOf.l3 : Nat → List Int → Int → List Int → Int → Int → Int → Option (List Int)
 | 0, _, _, _, _, _, _ => none
 | k + 1, x3, x4, x5, x9, x10, x11 => if x11 < x4 then (if 0 ≤ x11 then (if (Int.tmod (shr .i64 x9 x11) 2) = 1 then (if x11 < (x5.length : Int) then (spec_BlocksOf.l3 k x3 x4 x5 x9 (Go.bits .and .i64 x10 (rd x5 x11)) (wrap64 (x11 + 1))) else (none)) else (spec_BlocksOf.l3 k x3 x4 x5 x9 x10 (wrap64 (x11 + 1)))) else (none)) else (if x10 = x9 then (if x3.length < 17592186044416 then (spec_BlocksOf.l2 k (x3 ++ [x9]) x4 x5 (wrap64 (x9 + 1))) else (none)) else (spec_BlocksOf.l2 k x3 x4 x5 (wrap64 (x9 + 1))))
end
def spec_BlocksOf.f (k : Nat) (l0_0 : List (List Int)) (l0_1 : List Int) : Option (List Int) := (some (([] : List Int) : List Int)).bind fun y603 => ((spec_LogicOk.f k l0_0 l0_1).bind fun t606 => (if t606 = true then (spec_BlocksOf.l0 k y603 (l0_1.length : Int) (([] : List Int)) 0 l0_0 l0_1) else (some y603)))
set_option maxHeartbeats 8000000 in
set_option maxRecDepth 100000 in
theorem spec_BlocksOf.calls (k : Nat) (A0_0 : Option Addr) (c0_0 : Nat) (l0_0 : List (List Int)) (A0_1 : Option Addr) (c0_1 : Nat) (l0_1 : List Int) (r : List Int) (w : World) (hr0_0 : Kd.C (Kd.slice 3 (Kd.int .i64)) w A0_0 l0_0.length l0_0) (hc0_0 : l0_0.length ≤ c0_0) (hr0_1 : Kd.C (Kd.int .i64) w A0_1 l0_1.length l0_1) (hc0_1 : l0_1.length ≤ c0_1) (h : spec_BlocksOf.f k l0_0 l0_1 = some r) :
  Calls Try.prog 32 #[.agg #[.slice A0_0 l0_0.length c0_0, .slice A0_1 l0_1.length c0_1]] w fun e w' => ∃ v0_ : Value, e = .returned (v0_) ∧ Kd.R (Kd.int .i64) 3 w' w.heap.size (fun _ => True) v0_ r ∧ Below w.heap.size w w' := by
 have hu26:=Try.underlying26;have e2:=zqm hr0_0;have e0:=zqm hc0_0;clear hr0_0 hc0_0;have e3:=zqm hr0_1;have e1:=zqm hc0_1;clear hr0_1 hc0_1;have HB:=zqm (Below.refl w.heap.size w);have H:((some (([]:List Int):List Int)).bind fun a7=>((spec_LogicOk.f k l0_0 l0_1).bind fun d5=>(if d5=true then(spec_BlocksOf.l0 k a7 (l0_1.length:Int) (([]:List Int)) 0 l0_0 l0_1) else(some a7))))=some r:=h;clear h;obtain⟨a7,d0⟩: ∃y_:List Int,y_=(([]:List Int)):=⟨_,rfl⟩;(replace H:((spec_LogicOk.f k l0_0 l0_1).bind fun d5=>(if d5=true then(spec_BlocksOf.l0 k a7 (l0_1.length:Int) (([]:List Int)) 0 l0_0 l0_1) else(some a7)))=some r:=by first|(rw [d0];with_reducible exact H)|(have b4:=(Option.bind_some _ _).symm.trans H;rw [d0];with_reducible exact b4)|(have b4:=(Option.bind_some _ _).symm.trans H;with_reducible exact b4)|with_reducible exact H|(rw [d0];exact H)|exact H);have e4:=zqm d0;clear d0;replace H:=Option.bind_eq_some_iff.mp H;obtain⟨d5,j7,H⟩:=H;replace H:(if d5=true then(spec_BlocksOf.l0 k a7 (l0_1.length:Int) (([]:List Int)) 0 l0_0 l0_1) else(some a7))=some r:=H;have A2:=zqm j7;clear j7
 by_cases c3:d5=true
 ·subst c3;(have H1:(spec_BlocksOf.l0 k a7 (l0_1.length:Int) (([]:List Int)) 0 l0_0 l0_1)=some r:=by rw [if_pos rfl] at H;exact H);clear H;have H:=H1;clear H1;obtain⟨i0,d1⟩: ∃y_:List Int,y_=(([]:List Int)):=⟨_,rfl⟩;(replace H:(spec_BlocksOf.l0 k a7 (l0_1.length:Int) i0 0 l0_0 l0_1)=some r:=by first|(rw [d1];with_reducible exact H)|(have b4:=(Option.bind_some _ _).symm.trans H;rw [d1];with_reducible exact b4)|(have b4:=(Option.bind_some _ _).symm.trans H;with_reducible exact b4)|with_reducible exact H|(rw [d1];exact H)|exact H);have h1:=zqm d1;clear d1;have H':=zqm H;clear H
  go_enter Try.func32,Try.ntmps32
  go_wp2_with (first|((with_reducible refine gate_dst (N:=1) rfl ?_);refine box_event ?hg (N:=1) ?hd (cs:= #[.slice A0_0 l0_0.length c0_0,.slice A0_1 l0_1.length c0_1]) (t:=26) ?hr ?_;(case hd=>rfl);(case hg=>rfl);(case hr=>first|(go_simp;done)|(go_simp;rfl));intro a3 hg w4 hbox hb;have d9:=zqm (below_step zq0 hb);have a0:=zqm (hbox);have i3:=zqm ((by rw [hg];exact(below_size zq0):w.heap.size≤a3));have a1:=zqm ((by rw [hg];exact(below_size zq0):w.heap.size≤a3));clear HB;have HB:=d9;clear d9 hb hbox hg)|((with_reducible refine gate_dst (N:=12) rfl ?_);refine Kd.R_lit (Kd.int .i64) _ 3 ?hg (N:=12) ?hd (xs:=([]:List Int)) (inner:= []) (ok:=fun _=>True) (okp:=fun _=>True) ?hr ?hp (fun _ hk=>hk) trivial (Below.refl _ _) (Nat.le_refl _) (by simp) ?_;(case hd=>rfl);(case hg=>rfl);(case hr=>first|(go_simp;done)|(go_simp;rfl));(case hp=>exact(Reps.none _ _));intro d6 w5 g8 hb hg_ hnew_;clear hg_ hnew_;(first|rw [← e4.out] at g8|(simp only [Int.reduceToNat] at g8;rw [← e4.out] at g8));have b1:=zqm (Kd.R_lower g8 (below_size zq26));replace a0:=zqm (blk_below (g:=a3) (o:= .cells #[.slice A0_0 l0_0.length c0_0,.slice A0_1 l0_1.length c0_1] 26 (0,0)) zq2 hb);replace HB:=zqm (below_step zq26 hb);clear hb g8;have c5:w5.cell? ⟨a3,0,none⟩=some (.slice A0_0 l0_0.length c0_0):=(blk_cell a0.out 0).trans rfl;have c6:w5.cell? ⟨a3,1,none⟩=some (.slice A0_1 l0_1.length c0_1):=(blk_cell a0.out 1).trans rfl;have c7:=blk_frozen a0.out 0;have c8:=blk_frozen a0.out 1)|((with_reducible refine gate_callee (f:=17) rfl ?_);refine goesL_ (some 17) rfl rfl Try.func17 zqk rfl #[.agg #[.slice A0_0 l0_0.length c0_0,.slice A0_1 l0_1.length c0_1]] rfl zq1 ?_;(with_reducible refine(spec_LogicOk.calls k _ _ l0_0 _ _ l0_1 true _ ?side1 ?side2 ?side3 ?side4 A2.out).mono ?_);(case side1=> exact zq134);(case side2=>exact e0.out);(case side3=> exact zq135);(case side4=>exact e1.out);rintro e w8 ⟨rfl,hb⟩;refine⟨_,rfl,?_⟩;replace b1:=zqm (Kd.R_below zq241 hb);replace a0:=zqm (blk_below (g:=a3) (o:= .cells #[.slice A0_0 l0_0.length c0_0,.slice A0_1 l0_1.length c0_1] 26 (0,0)) zq2 hb);replace HB:=zqm (below_step zq26 hb);clear hb)|((with_reducible refine gate_dst (N:=20) rfl ?_);refine Kd.R_lit (Kd.int .i64) _ 3 ?hg (N:=20) ?hd (xs:=([]:List Int)) (inner:= []) (ok:=fun _=>True) (okp:=fun _=>True) ?hr ?hp (fun _ hk=>hk) trivial (Below.refl _ _) (Nat.le_refl _) (by simp) ?_;(case hd=>rfl);(case hg=>rfl);(case hr=>first|(go_simp;done)|(go_simp;rfl));(case hp=>exact(Reps.none _ _));intro m4 w9 d4 hb hg_ hnew_;clear hg_ hnew_;(first|rw [← h1.out] at d4|(simp only [Int.reduceToNat] at d4;rw [← h1.out] at d4));have d9:=zqm (Kd.R_elder' zq241 (Kd.R_base d4) hb);have i4:=zqm (Kd.R_lower (Kd.R_new' d4 (Kd.R_lt zq241)) (below_size zq26));replace a0:=zqm (blk_below (g:=a3) (o:= .cells #[.slice A0_0 l0_0.length c0_0,.slice A0_1 l0_1.length c0_1] 26 (0,0)) zq2 hb);replace HB:=zqm (below_step zq26 hb);clear b1;have b1:=d9;clear d9 hb d4))
  go_loopg [5,6] k (fun kq v5 v6 w'=> ∃(a5:List Int) (a8:Int),v6= .int .i64 a8∧Aside0 (spec_BlocksOf.l0 kq a7 (l0_1.length:Int) a5 a8 l0_0 l0_1=some r)∧Aside0 (kq≤k)∧Aside0 (Kd.R (Kd.int .i64) 3 w' w.heap.size (fun k_=>some k_≠(v5:Value).ownBlock) d6 a7)∧Aside0 (Kd.R (Kd.int .i64) 3 w' w.heap.size (fun k_=>some k_≠(d6:Value).ownBlock) v5 a5)∧Aside0 (w'.heap[a3]? =some (.cells #[(.slice A0_0 l0_0.length c0_0),(.slice A0_1 l0_1.length c0_1)] 26 (0,0)))∧Aside0 (Below w.heap.size w w'))
  case atStart=>exact⟨(i0),(0),(by first|rfl|(simp;done)|(simp [*];done)),H',⟨Nat.le_refl _⟩,⟨by(with_reducible repeat(first|apply Kd.R_alloc|apply Kd.R_drewN|apply Kd.R_drew));exact Kd.R_mono b1.out (fun _ hk=>hk.2)⟩,⟨by(with_reducible repeat(first|apply Kd.R_alloc|apply Kd.R_drewN|apply Kd.R_drew));exact Kd.R_mono i4.out (fun _ hk=>hk.2)⟩,⟨zq2⟩,⟨zq26⟩⟩
  case round=>
   clear H';(try clear c1);(try clear p2);(try clear c3);(try clear c5);(try clear c6);(try clear c7);(try clear c8);obtain⟨a5,a8,rfl,HA,b6,HO_3,HO_5,a0,HB⟩:=hrel
   cases gk with
   |zero=>exact absurd HA.out (by simp [spec_BlocksOf.l0])
   |succ k1=>
    have H:=HA.out;clear HA;simp only [spec_BlocksOf.l0] at H
    by_cases c4:a8<(l0_1.length:Int)
    ·rw [if_pos c4] at H;have e5:decide (a8<(l0_1.length:Int))=true:=decide_eq_true c4;clear c4;have H':=zqm H;clear H
     go_wp2
     go_loopg [7,8] k1 (fun kq v7 v8 w'=> ∃(b3:Int) (a2:Int),v7= .int .i64 b3∧v8= .int .i64 a2∧Aside0 (spec_BlocksOf.l1 kq a7 (l0_1.length:Int) a5 a8 b3 a2 l0_0 l0_1=some r)∧Aside0 (kq≤k1)∧Aside0 (Kd.R (Kd.int .i64) 3 w' w.heap.size (fun k_=>some k_≠(u5:Value).ownBlock) d6 a7)∧Aside0 (Kd.R (Kd.int .i64) 3 w' w.heap.size (fun k_=>some k_≠(d6:Value).ownBlock) u5 a5)∧Aside0 (w'.heap[a3]? =some (.cells #[(.slice A0_0 l0_0.length c0_0),(.slice A0_1 l0_1.length c0_1)] 26 (0,0)))∧Aside0 (Below w.heap.size w w'))
     case atStart=>exact⟨(0),(0),(by first|rfl|(simp;done)|(simp [*];done)),(by first|rfl|(simp;done)|(simp [*];done)),H',⟨Nat.le_refl _⟩,⟨zq50⟩,⟨zq49⟩,⟨zq2⟩,⟨zq26⟩⟩
     case round=>
      clear H';(try clear c1);(try clear p2);(try clear c3);(try clear c4);(try clear e5);(try clear c5);(try clear c6);(try clear c7);(try clear c8);(try clear p2);obtain⟨b3,a2,rfl,rfl,HA,b5,HO_3,HO_5,a0,HB⟩:=hrel
      cases gk with
      |zero=>exact absurd HA.out (by simp [spec_BlocksOf.l1])
      |succ k2=>
       have H:=HA.out;clear HA;simp only [spec_BlocksOf.l1] at H
       by_cases d8:a2<(l0_1.length:Int)
       ·rw [if_pos d8] at H;have g5:decide (a2<(l0_1.length:Int))=true:=decide_eq_true d8;clear d8;replace H:=Option.bind_eq_some_iff.mp H;obtain⟨h9,h8,H⟩:=H;replace H:(if h9=true then(if 0≤a2 then(spec_BlocksOf.l1 k2 a7 (l0_1.length:Int) a5 a8 (Go.bits .or .i64 b3 (shl .i64 1 a2)) (wrap64 (a2+1)) l0_0 l0_1) else(none)) else(spec_BlocksOf.l1 k2 a7 (l0_1.length:Int) a5 a8 b3 (wrap64 (a2+1)) l0_0 l0_1))=some r:=H;have h7:=zqm h8;clear h8
        by_cases f3:h9=true
        ·subst f3;(have H1:(if 0≤a2 then(spec_BlocksOf.l1 k2 a7 (l0_1.length:Int) a5 a8 (Go.bits .or .i64 b3 (shl .i64 1 a2)) (wrap64 (a2+1)) l0_0 l0_1) else(none))=some r:=by rw [if_pos rfl] at H;exact H);clear H;have H:=H1;clear H1
         by_cases e7:0≤a2
         ·rw [if_pos e7] at H;have h2:=eq_true e7;have h3:decide (0≤a2)=true:=decide_eq_true e7;clear e7;obtain⟨b7,b9⟩: ∃j_:Int,(shl .i64 1 a2)=j_:=⟨_,rfl⟩;(replace H:(spec_BlocksOf.l1 k2 a7 (l0_1.length:Int) a5 a8 (Go.bits .or .i64 b3 (b7)) (wrap64 (a2+1)) l0_0 l0_1)=some r:=by first|(rw [b9] at H;exact H)|(simp only [b9] at H ⊢;exact H));(try rw [b9] at h7);have g7:(IntKind.i64.wrap (1*2 ^ min a2.toNat 64))=b7:=b9;have hji16z:a2≤64→(IntKind.i64.wrap (1*2 ^ a2.toNat))=b7:=shl_small b9;(have hji16u:(IntKind.i64.wrap (2 ^ min a2.toNat 64))=b7:=by have h_:=g7;rw [Int.one_mul] at h_;exact h_);(have hji16v:a2≤64→(IntKind.i64.wrap (2 ^ a2.toNat))=b7:=fun hle_=>by have h_:=hji16z hle_;rw [Int.one_mul] at h_;exact h_);have hji16y:(wrap64 (1*2 ^ min a2.toNat 64))=b7:=(i64_w _).symm.trans g7;have hji16x:a2≤64→(wrap64 (1*2 ^ a2.toNat))=b7:=fun h_=>(i64_w _).symm.trans (hji16z h_);have H':=zqm H;clear H;have f7:wr.cell? ⟨a3,0,none⟩=some (.slice A0_0 l0_0.length c0_0):=(blk_cell a0.out 0).trans rfl;have f8:wr.cell? ⟨a3,1,none⟩=some (.slice A0_1 l0_1.length c0_1):=(blk_cell a0.out 1).trans rfl;have g1:=blk_frozen a0.out 0;have g2:=blk_frozen a0.out 1
          go_wp2_with (first|((with_reducible refine gate_callee (f:=93) rfl ?_);refine goesL_ (some 34) rfl rfl Try.func93 zqk rfl #[.agg #[.slice A0_0 l0_0.length c0_0,.slice A0_1 l0_1.length c0_1],.int .i64 a8,.int .i64 a2] rfl zq1 ?_;(with_reducible refine(spec_l6Agree.calls k2 _ _ l0_0 _ _ l0_1 a8 a2 true _ ?side1 ?side2 ?side3 ?side4 h7.out).mono ?_);(case side1=> exact zq134);(case side2=>exact e0.out);(case side3=> exact zq135);(case side4=>exact e1.out);rintro e m9 ⟨rfl,hb⟩;refine⟨_,rfl,?_⟩;replace HO_3:=zqm (Kd.R_below zq50 hb);replace HO_5:=zqm (Kd.R_below zq49 hb);replace a0:=zqm (blk_below (g:=a3) (o:= .cells #[.slice A0_0 l0_0.length c0_0,.slice A0_1 l0_1.length c0_1] 26 (0,0)) zq2 hb);replace HB:=zqm (below_step zq26 hb);clear hb))
          go_roundg k2
          (case measure=>have:=b6.out;have:=b5.out;omega);case rel=>exact⟨(Go.bits .or .i64 b3 (b7)),(wrap64 (a2+1)),(by first|rfl|(simp;done)|(simp only [← b9] <;> (first|rfl|simp))|(simp [*];done)),(by first|rfl|(simp;done)|(simp [*];done)),H',⟨by have:=b6.out;have:=b5.out;omega⟩,⟨zq50⟩,⟨zq49⟩,⟨zq2⟩,⟨zq26⟩⟩
         ·rw [if_neg e7] at H;exact absurd H (by simp)
        ·replace f3:=Bool.eq_false_iff.mpr f3;subst f3;(have H1:(spec_BlocksOf.l1 k2 a7 (l0_1.length:Int) a5 a8 b3 (wrap64 (a2+1)) l0_0 l0_1)=some r:=by rw [if_neg (show¬(false=true) by decide)] at H;exact H);clear H;have H:=H1;clear H1;have H':=zqm H;clear H;have f9:wr.cell? ⟨a3,0,none⟩=some (.slice A0_0 l0_0.length c0_0):=(blk_cell a0.out 0).trans rfl;have g0:wr.cell? ⟨a3,1,none⟩=some (.slice A0_1 l0_1.length c0_1):=(blk_cell a0.out 1).trans rfl;have g3:=blk_frozen a0.out 0;have g4:=blk_frozen a0.out 1
         go_wp2_with (first|((with_reducible refine gate_callee (f:=93) rfl ?_);refine goesL_ (some 34) rfl rfl Try.func93 zqk rfl #[.agg #[.slice A0_0 l0_0.length c0_0,.slice A0_1 l0_1.length c0_1],.int .i64 a8,.int .i64 a2] rfl zq1 ?_;(with_reducible refine(spec_l6Agree.calls k2 _ _ l0_0 _ _ l0_1 a8 a2 false _ ?side1 ?side2 ?side3 ?side4 h7.out).mono ?_);(case side1=> exact zq134);(case side2=>exact e0.out);(case side3=> exact zq135);(case side4=>exact e1.out);rintro e n0 ⟨rfl,hb⟩;refine⟨_,rfl,?_⟩;replace HO_3:=zqm (Kd.R_below zq50 hb);replace HO_5:=zqm (Kd.R_below zq49 hb);replace a0:=zqm (blk_below (g:=a3) (o:= .cells #[.slice A0_0 l0_0.length c0_0,.slice A0_1 l0_1.length c0_1] 26 (0,0)) zq2 hb);replace HB:=zqm (below_step zq26 hb);clear hb))
         go_roundg k2
         (case measure=>have:=b6.out;have:=b5.out;omega);case rel=>exact⟨(b3),(wrap64 (a2+1)),(by first|rfl|(simp;done)|(simp [*];done)),(by first|rfl|(simp;done)|(simp [*];done)),H',⟨by have:=b6.out;have:=b5.out;omega⟩,⟨zq50⟩,⟨zq49⟩,⟨zq2⟩,⟨zq26⟩⟩
       ·rw [if_neg d8] at H;have g5:decide (a2<(l0_1.length:Int))=false:=decide_eq_false d8;clear d8
        by_cases f4:a5.length<17592186044416
        ·rw [if_pos f4] at H;have LMc21:=zqm f4;clear f4;obtain⟨i1,d2⟩: ∃y_:List Int,y_=(a5 ++ [b3]):=⟨_,rfl⟩;(replace H:(spec_BlocksOf.l0 k2 a7 (l0_1.length:Int) i1 (wrap64 (a8+1)) l0_0 l0_1)=some r:=by first|(rw [d2];with_reducible exact H)|(have b4:=(Option.bind_some _ _).symm.trans H;rw [d2];with_reducible exact b4)|(have b4:=(Option.bind_some _ _).symm.trans H;with_reducible exact b4)|with_reducible exact H|(rw [d2];exact H)|exact H);have i7:=zqm d2;clear d2;have H':=zqm H;clear H
         go_wp2_with (first|((with_reducible refine gate_builtin (b:= .append) (xs:= #[.tmp 39,.tmp 41]) rfl ?_);at_builtin;refine Kd.R_append (Kd.int .i64) (w0:=w) w.heap.size rfl (.tmp 39) (.tmp 41) 24 3 (.int .i64 0) 8 rfl Try.underlying24 info3 rfl (by decide) (by omega) u5 a5 b3 [.int .i64 b3] (fun k_=>some k_≠(d6:Value).ownBlock) (fun _=>False) rfl rfl ?aP (fun _ hk=>hk.elim) ?aF ?aO ?aB ?aS ?aL ?_;(case aP=>exact rfl);(case aB=> exact zq276);(case aF=>exact(fun k_ hk=>Kd.fresh' (Kd.R_lt zq50) k_ hk));(case aO=> exact zq251);(case aS=> exact zq267);(case aL=>have:=LMc21.out;omega);intro m5 n1 ho hb hg hat;rw [← i7.out] at ho;replace HO_3:=zqm (Kd.R_after (ok:=(fun _=>True)) (by(with_reducible repeat(first|apply Kd.R_alloc|apply Kd.R_drewN|apply Kd.R_drew));exact Kd.R_mono HO_3.out (fun _ hk=>⟨trivial,hk⟩)) hg hat);replace a0:=zqm (blk_grown (g:=a3) (o:= .cells #[.slice A0_0 l0_0.length c0_0,.slice A0_1 l0_1.length c0_1] 26 (0,0)) zq2 hg (Kd.R_ne HO_5.out a0.out (by decide)));replace HB:=zqm (hb);have i5:=zqm (ho);clear HO_5;clear ho hb hg hat))
         go_roundg k2
         (case measure=>have:=b6.out;have:=b5.out;omega);case rel=>exact⟨(i1),(wrap64 (a8+1)),(by first|rfl|(simp;done)|(simp [*];done)),H',⟨by have:=b6.out;have:=b5.out;omega⟩,⟨by(with_reducible repeat(first|apply Kd.R_alloc|apply Kd.R_drewN|apply Kd.R_drew));exact Kd.R_mono HO_3.out (fun _ hk=>hk.2)⟩,⟨by(with_reducible repeat(first|apply Kd.R_alloc|apply Kd.R_drewN|apply Kd.R_drew));exact i5.out⟩,⟨zq2⟩,⟨zq26⟩⟩
        ·rw [if_neg f4] at H;exact absurd H (by simp)
    ·rw [if_neg c4] at H;have e5:decide (a8<(l0_1.length:Int))=false:=decide_eq_false c4;clear c4;have H':=zqm H;clear H
     go_wp2
     go_loopg [3,9] k1 (fun kq v3 v9 w'=> ∃(b2:List Int) (a6:Int),v9= .int .i64 a6∧Aside0 (spec_BlocksOf.l2 kq b2 (l0_1.length:Int) a5 a6=some r)∧Aside0 (kq≤k1)∧Aside0 (Kd.R (Kd.int .i64) 3 w' w.heap.size (fun k_=>some k_≠(u5:Value).ownBlock) v3 b2)∧Aside0 (Kd.R (Kd.int .i64) 3 w' w.heap.size (fun k_=>some k_≠(v3:Value).ownBlock) u5 a5)∧Aside0 (w'.heap[a3]? =some (.cells #[(.slice A0_0 l0_0.length c0_0),(.slice A0_1 l0_1.length c0_1)] 26 (0,0)))∧Aside0 (Below w.heap.size w w'))
     case atStart=>exact⟨(a7),(1),(by first|rfl|(simp;done)|(simp [*];done)),H',⟨Nat.le_refl _⟩,⟨zq50⟩,⟨zq49⟩,⟨zq2⟩,⟨zq26⟩⟩
     case round=>
      clear H';(try clear c1);(try clear c2);(try clear p2);(try clear c3);(try clear p6);(try clear c9);(try clear c4);(try clear e5);(try clear d8);(try clear g5);(try clear f3);(try clear e7);(try clear h2);(try clear h3);(try clear k9);(try clear f4);(try clear f7);(try clear f8);(try clear f9);(try clear g0);(try clear c5);(try clear c6);(try clear g1);(try clear g2);(try clear g3);(try clear g4);(try clear c7);(try clear c8);(try clear p2);obtain⟨b2,a6,rfl,HA,b5,HO_3,HO_5,a0,HB⟩:=hrel
      cases gk with
      |zero=>exact absurd HA.out (by simp [spec_BlocksOf.l2])
      |succ k2=>
       have H:=HA.out;clear HA;simp only [spec_BlocksOf.l2] at H
       by_cases f5:0≤(l0_1.length:Int)
       ·rw [if_pos f5] at H;have i9:=eq_true f5;have j0:decide (0≤(l0_1.length:Int))=true:=decide_eq_true f5;clear f5;obtain⟨a9,c0⟩: ∃j_:Int,(shl .i64 1 (l0_1.length:Int))=j_:=⟨_,rfl⟩;(replace H:(if a6<(a9) then(spec_BlocksOf.l3 k2 b2 (l0_1.length:Int) a5 a6 (wrap64 ((a9) - 1)) 0) else(some b2))=some r:=by first|(rw [c0] at H;exact H)|(simp only [c0] at H ⊢;exact H));have f1:(IntKind.i64.wrap (1*2 ^ min (l0_1.length:Int).toNat 64))=a9:=c0;have hji24z:(l0_1.length:Int)≤64→(IntKind.i64.wrap (1*2 ^ (l0_1.length:Int).toNat))=a9:=shl_small c0;have hji24p:(IntKind.i64.wrap (1*2 ^ min l0_1.length 64))=a9:=f1;have hji24q:(l0_1.length:Int)≤64→(IntKind.i64.wrap (1*2 ^ l0_1.length))=a9:=hji24z;(have hji24r:(IntKind.i64.wrap (2 ^ min l0_1.length 64))=a9:=by have h_:=hji24p;rw [Int.one_mul] at h_;exact h_);(have hji24s:(l0_1.length:Int)≤64→(IntKind.i64.wrap (2 ^ l0_1.length))=a9:=fun hle_=>by have h_:=hji24q hle_;rw [Int.one_mul] at h_;exact h_);(have hji24u:(IntKind.i64.wrap (2 ^ min (l0_1.length:Int).toNat 64))=a9:=by have h_:=f1;rw [Int.one_mul] at h_;exact h_);(have hji24v:(l0_1.length:Int)≤64→(IntKind.i64.wrap (2 ^ (l0_1.length:Int).toNat))=a9:=fun hle_=>by have h_:=hji24z hle_;rw [Int.one_mul] at h_;exact h_);have hji24y:(wrap64 (1*2 ^ min (l0_1.length:Int).toNat 64))=a9:=(i64_w _).symm.trans f1;have hji24x:(l0_1.length:Int)≤64→(wrap64 (1*2 ^ (l0_1.length:Int).toNat))=a9:=fun h_=>(i64_w _).symm.trans (hji24z h_)
        by_cases e8:a6<(a9)
        ·rw [if_pos e8] at H;have h4:decide (a6<(a9))=true:=decide_eq_true e8;clear e8;have j1:=eq_true (zqo:0≤(l0_1.length:Int));have H':=zqm H;clear H
         go_wp2
         go_loopg [10,11] k2 (fun kq l5 l6 w'=> ∃(b0:Int) (a4:Int),l5= .int .i64 b0∧l6= .int .i64 a4∧Aside0 (spec_BlocksOf.l3 kq b2 (l0_1.length:Int) a5 a6 b0 a4=some r)∧Aside0 (kq≤k2)∧Aside0 (Kd.R (Kd.int .i64) 3 w' w.heap.size (fun k_=>some k_≠(u5:Value).ownBlock) u3 b2)∧Aside0 (Kd.R (Kd.int .i64) 3 w' w.heap.size (fun k_=>some k_≠(u3:Value).ownBlock) u5 a5)∧Aside0 (w'.heap[a3]? =some (.cells #[(.slice A0_0 l0_0.length c0_0),(.slice A0_1 l0_1.length c0_1)] 26 (0,0)))∧Aside0 (Below w.heap.size w w'))
         case atStart=>exact⟨(wrap64 ((a9) - 1)),(0),(by first|rfl|(simp;done)|(simp only [← c0] <;> (first|rfl|simp))|(simp [*];done)),(by first|rfl|(simp;done)|(simp [*];done)),H',⟨Nat.le_refl _⟩,⟨zq50⟩,⟨zq49⟩,⟨zq2⟩,⟨zq26⟩⟩
         case round=>
          clear H';(try clear c1);(try clear c2);(try clear p2);(try clear c3);(try clear p6);(try clear c9);(try clear c4);(try clear e5);(try clear d8);(try clear g5);(try clear f3);(try clear e7);(try clear h2);(try clear h3);(try clear k9);(try clear f4);(try clear f5);(try clear i9);(try clear j0);(try clear e8);(try clear h4);(try clear m7);(try clear j1);(try clear m8);(try clear l8);(try clear f7);(try clear f8);(try clear f9);(try clear g0);(try clear c5);(try clear c6);(try clear g1);(try clear g2);(try clear g3);(try clear g4);(try clear c7);(try clear c8);(try clear p2);(try clear p6);obtain⟨b0,a4,rfl,rfl,HA,d7,HO_3,HO_5,a0,HB⟩:=hrel
          cases gk with
          |zero=>exact absurd HA.out (by simp [spec_BlocksOf.l3])
          |succ k3=>
           have H:=HA.out;clear HA;simp only [spec_BlocksOf.l3] at H
           by_cases f6:a4<(l0_1.length:Int)
           ·rw [if_pos f6] at H;have j2:decide (a4<(l0_1.length:Int))=true:=decide_eq_true f6;clear f6
            by_cases g6:0≤a4
            ·rw [if_pos g6] at H;have l9:=eq_true g6;have m0:decide (0≤a4)=true:=decide_eq_true g6;clear g6;obtain⟨b8,e6⟩: ∃j_:Int,(shr .i64 a6 a4)=j_:=⟨_,rfl⟩;(replace H:(if(Int.tmod (b8) 2)=1 then(if a4<(a5.length:Int) then(spec_BlocksOf.l3 k3 b2 (l0_1.length:Int) a5 a6 (Go.bits .and .i64 b0 (rd a5 a4)) (wrap64 (a4+1))) else(none)) else(spec_BlocksOf.l3 k3 b2 (l0_1.length:Int) a5 a6 b0 (wrap64 (a4+1))))=some r:=by first|(rw [e6] at H;exact H)|(simp only [e6] at H ⊢;exact H));have l4:(a6 / 2 ^ min a4.toNat 64)=b8:=e6;have hji30z:a4≤64→(a6 / 2 ^ a4.toNat)=b8:=shr_small e6
             by_cases e9:(Int.tmod (b8) 2)=1
             ·rw [if_pos e9] at H;have j3:((Int.tmod (b8) 2)==1)=true:=beq_iff_eq.mpr e9;have j4:((Int.tmod (b8) 2) !=1)=false:=bne_eq_false_iff_eq.mpr e9;clear e9
              by_cases h5:a4<(a5.length:Int)
              ·rw [if_pos h5] at H;have m1:decide (a4<(a5.length:Int))=true:=decide_eq_true h5;clear h5;have H':=zqm H;clear H;obtain⟨m2,m3,k0⟩:=Kd.R_slice HO_5.out;subst k0;have g9:0≤(a4:Int):=zqo;have h0:a4<(a5.length:Int):=zqo;obtain⟨l7,j9,k8⟩:=Kd.at_int (Kd.R_reads' HO_5.out).2.2 a4 g9 h0
               cases j9
               replace g9:=eq_true g9;replace h0:=eq_true h0
               go_wp2
               go_roundg k3
               (case measure=> exact zq265);case rel=>exact⟨(Go.bits .and .i64 b0 (rd a5 a4)),(wrap64 (a4+1)),(by first|rfl|(simp;done)|(simp [*];done)),(by first|rfl|(simp;done)|(simp [*];done)),H',⟨zq265⟩,⟨zq50⟩,⟨zq49⟩,⟨zq2⟩,⟨zq26⟩⟩
              ·rw [if_neg h5] at H;exact absurd H (by simp)
             ·rw [if_neg e9] at H;have j3:((Int.tmod (b8) 2)==1)=false:=beq_eq_false_iff_ne.mpr e9;have j4:((Int.tmod (b8) 2) !=1)=true:=bne_iff_ne.mpr e9;have H':=zqm H;clear H
              go_wp2
              go_roundg k3
              (case measure=> exact zq265);case rel=>exact⟨(b0),(wrap64 (a4+1)),(by first|rfl|(simp;done)|(simp [*];done)),(by first|rfl|(simp;done)|(simp [*];done)),H',⟨zq265⟩,⟨zq50⟩,⟨zq49⟩,⟨zq2⟩,⟨zq26⟩⟩
            ·rw [if_neg g6] at H;exact absurd H (by simp)
           ·rw [if_neg f6] at H;have j2:decide (a4<(l0_1.length:Int))=false:=decide_eq_false f6;clear f6
            by_cases f0:b0=a6
            ·rw [if_pos f0] at H;have j5:(b0==a6)=true:=beq_iff_eq.mpr f0;have j6:(b0 !=a6)=false:=bne_eq_false_iff_eq.mpr f0;clear f0
             by_cases h6:b2.length<17592186044416
             ·rw [if_pos h6] at H;have LMc35:=zqm h6;clear h6;obtain⟨i2,d3⟩: ∃y_:List Int,y_=(b2 ++ [a6]):=⟨_,rfl⟩;(replace H:(spec_BlocksOf.l2 k3 i2 (l0_1.length:Int) a5 (wrap64 (a6+1)))=some r:=by first|(rw [d3];with_reducible exact H)|(have b4:=(Option.bind_some _ _).symm.trans H;rw [d3];with_reducible exact b4)|(have b4:=(Option.bind_some _ _).symm.trans H;with_reducible exact b4)|with_reducible exact H|(rw [d3];exact H)|exact H);have i8:=zqm d3;clear d3;have H':=zqm H;clear H
              go_wp2_with (first|((with_reducible refine gate_builtin (b:= .append) (xs:= #[.tmp 71,.tmp 73]) rfl ?_);at_builtin;refine Kd.R_append (Kd.int .i64) (w0:=w) w.heap.size rfl (.tmp 71) (.tmp 73) 24 3 (.int .i64 0) 8 rfl Try.underlying24 info3 rfl (by decide) (by omega) u3 b2 a6 [.int .i64 a6] (fun k_=>some k_≠(u5:Value).ownBlock) (fun _=>False) rfl rfl ?aP (fun _ hk=>hk.elim) ?aF ?aO ?aB ?aS ?aL ?_;(case aP=>exact rfl);(case aB=> exact zq276);(case aF=> exact zq282);(case aO=> exact zq95);(case aS=> exact zq267);(case aL=>have:=LMc35.out;omega);intro m6 n2 ho hb hg hat;rw [← i8.out] at ho;replace HO_5:=zqm (Kd.R_after (ok:=(fun _=>True)) zq298 hg hat);replace a0:=zqm (blk_grown (g:=a3) (o:= .cells #[.slice A0_0 l0_0.length c0_0,.slice A0_1 l0_1.length c0_1] 26 (0,0)) zq2 hg (Kd.R_ne HO_3.out a0.out (by decide)));replace HB:=zqm (hb);have i6:=zqm (ho);clear HO_3;clear ho hb hg hat))
              go_roundg k3
              (case measure=> exact zq265);case rel=>exact⟨(i2),(wrap64 (a6+1)),(by first|rfl|(simp;done)|(simp [*];done)),H',⟨zq265⟩,⟨by(with_reducible repeat(first|apply Kd.R_alloc|apply Kd.R_drewN|apply Kd.R_drew));exact i6.out⟩,⟨by(with_reducible repeat(first|apply Kd.R_alloc|apply Kd.R_drewN|apply Kd.R_drew));exact Kd.R_mono HO_5.out (fun _ hk=>hk.2)⟩,⟨zq2⟩,⟨zq26⟩⟩
             ·rw [if_neg h6] at H;exact absurd H (by simp)
            ·rw [if_neg f0] at H;have j5:(b0==a6)=false:=beq_eq_false_iff_ne.mpr f0;have j6:(b0 !=a6)=true:=bne_iff_ne.mpr f0;have H':=zqm H;clear H
             go_wp2
             go_roundg k3
             (case measure=> exact zq265);case rel=>exact⟨(b2),(wrap64 (a6+1)),(by first|rfl|(simp;done)|(simp [*];done)),H',⟨zq265⟩,⟨zq50⟩,⟨zq49⟩,⟨zq2⟩,⟨zq26⟩⟩
        ·rw [if_neg e8] at H;have h4:decide (a6<(a9))=false:=decide_eq_false e8;clear e8;obtain rfl:=Option.some.inj H
         go_wp2
         go_ret
         exact⟨_,by first|rfl|(simp [errW_none,errW_some] <;> rfl)|(simp only [← c0];first|rfl|(simp [errW_none,errW_some] <;> rfl))|(simp [*,errW_none,errW_some] <;> rfl),by(with_reducible repeat(first|apply Kd.R_alloc|apply Kd.R_drewN|apply Kd.R_drew));exact Kd.R_mono HO_3.out (fun _ hk=>trivial),zq26⟩
       ·rw [if_neg f5] at H;exact absurd H (by simp)
 ·replace c3:=Bool.eq_false_iff.mpr c3;subst c3;(have H1:(some a7)=some r:=by rw [if_neg (show¬(false=true) by decide)] at H;exact H);clear H;have H:=H1;clear H1;obtain rfl:=Option.some.inj H
  go_enter Try.func32,Try.ntmps32
  go_wp2_with (first|((with_reducible refine gate_dst (N:=1) rfl ?_);refine box_event ?hg (N:=1) ?hd (cs:= #[.slice A0_0 l0_0.length c0_0,.slice A0_1 l0_1.length c0_1]) (t:=26) ?hr ?_;(case hd=>rfl);(case hg=>rfl);(case hr=>first|(go_simp;done)|(go_simp;rfl));intro a3 hg n3 hbox hb;have d9:=zqm (below_step zq0 hb);have a0:=zqm (hbox);have i3:=zqm ((by rw [hg];exact(below_size zq0):w.heap.size≤a3));have a1:=zqm ((by rw [hg];exact(below_size zq0):w.heap.size≤a3));clear HB;have HB:=d9;clear d9 hb hbox hg)|((with_reducible refine gate_dst (N:=12) rfl ?_);refine Kd.R_lit (Kd.int .i64) _ 3 ?hg (N:=12) ?hd (xs:=([]:List Int)) (inner:= []) (ok:=fun _=>True) (okp:=fun _=>True) ?hr ?hp (fun _ hk=>hk) trivial (Below.refl _ _) (Nat.le_refl _) (by simp) ?_;(case hd=>rfl);(case hg=>rfl);(case hr=>first|(go_simp;done)|(go_simp;rfl));(case hp=>exact(Reps.none _ _));intro d6 j8 f2 hb hg_ hnew_;clear hg_ hnew_;(first|rw [← e4.out] at f2|(simp only [Int.reduceToNat] at f2;rw [← e4.out] at f2));have b1:=zqm (Kd.R_lower f2 (below_size zq26));replace a0:=zqm (blk_below (g:=a3) (o:= .cells #[.slice A0_0 l0_0.length c0_0,.slice A0_1 l0_1.length c0_1] 26 (0,0)) zq2 hb);replace HB:=zqm (below_step zq26 hb);clear hb f2;have k4:j8.cell? ⟨a3,0,none⟩=some (.slice A0_0 l0_0.length c0_0):=(blk_cell a0.out 0).trans rfl;have k5:j8.cell? ⟨a3,1,none⟩=some (.slice A0_1 l0_1.length c0_1):=(blk_cell a0.out 1).trans rfl;have k6:=blk_frozen a0.out 0;have k7:=blk_frozen a0.out 1)|((with_reducible refine gate_callee (f:=17) rfl ?_);refine goesL_ (some 17) rfl rfl Try.func17 zqk rfl #[.agg #[.slice A0_0 l0_0.length c0_0,.slice A0_1 l0_1.length c0_1]] rfl zq1 ?_;(with_reducible refine(spec_LogicOk.calls k _ _ l0_0 _ _ l0_1 false _ ?side1 ?side2 ?side3 ?side4 A2.out).mono ?_);(case side1=> exact zq134);(case side2=>exact e0.out);(case side3=> exact zq135);(case side4=>exact e1.out);rintro e n4 ⟨rfl,hb⟩;refine⟨_,rfl,?_⟩;replace b1:=zqm (Kd.R_below zq241 hb);replace a0:=zqm (blk_below (g:=a3) (o:= .cells #[.slice A0_0 l0_0.length c0_0,.slice A0_1 l0_1.length c0_1] 26 (0,0)) zq2 hb);replace HB:=zqm (below_step zq26 hb);clear hb))
  go_ret
  exact⟨_,zq11,zq241,zq26⟩
end Go.Proofs.Ytcbjpdaogicibaa.Print
end
section
namespace Go.Proofs.Ytcbjpdaogicibaa.Print
open Go.RowKit Go.Proofs.YtcbjpdaogicibaaW.PrintWords Go.Proofs.YtcbjpdaogicibaaW.PrintLast Go.Proofs.YtcbjpdaogicibaaW.PrintMore
def spec_l2Both.f (k : Nat) (l0_0 : List (List Int)) (l0_1 : List Int) (a1 : Int) (a2 : Int) : Option (Bool) := (spec_LogicOk.f k l0_0 l0_1).bind fun t619 => (if t619 = true then ((spec_l1In.f a1 0 (wrap64 ((l0_1.length : Int) - 1))).bind fun t620 => (if t620 = true then ((spec_l1In.f a2 0 (wrap64 ((l0_1.length : Int) - 1))).bind fun t621 => (some t621)) else (some false))) else (some false))
set_option maxHeartbeats 8000000 in
set_option maxRecDepth 100000 in
theorem spec_l2Both.calls (k : Nat) (A0_0 : Option Addr) (c0_0 : Nat) (l0_0 : List (List Int)) (A0_1 : Option Addr) (c0_1 : Nat) (l0_1 : List Int) (a1 : Int) (a2 : Int) (r : Bool) (w : World) (hr0_0 : Kd.C (Kd.slice 3 (Kd.int .i64)) w A0_0 l0_0.length l0_0) (hc0_0 : l0_0.length ≤ c0_0) (hr0_1 : Kd.C (Kd.int .i64) w A0_1 l0_1.length l0_1) (hc0_1 : l0_1.length ≤ c0_1) (h : spec_l2Both.f k l0_0 l0_1 a1 a2 = some r) :
  Calls Try.prog 106 #[.agg #[.slice A0_0 l0_0.length c0_0, .slice A0_1 l0_1.length c0_1], .int .i64 a1, .int .i64 a2] w fun e w' => e = .returned (.bool r) ∧ Below w.heap.size w w' := by
 have hu26:=Try.underlying26;have b0:=zqm hr0_0;have a8:=zqm hc0_0;clear hr0_0 hc0_0;have b1:=zqm hr0_1;have a9:=zqm hc0_1;clear hr0_1 hc0_1;have HB:=zqm (Below.refl w.heap.size w);have H:((spec_LogicOk.f k l0_0 l0_1).bind fun b2=>(if b2=true then((spec_l1In.f a1 0 (wrap64 ((l0_1.length:Int) - 1))).bind fun a6=>(if a6=true then((spec_l1In.f a2 0 (wrap64 ((l0_1.length:Int) - 1))).bind fun a4=>(some a4)) else(some false))) else(some false)))=some r:=h;clear h;replace H:=Option.bind_eq_some_iff.mp H;obtain⟨b2,b4,H⟩:=H;replace H:(if b2=true then((spec_l1In.f a1 0 (wrap64 ((l0_1.length:Int) - 1))).bind fun a6=>(if a6=true then((spec_l1In.f a2 0 (wrap64 ((l0_1.length:Int) - 1))).bind fun a4=>(some a4)) else(some false))) else(some false))=some r:=H;have A4:=zqm b4;clear b4
 by_cases c5:b2=true
 ·subst c5;(have H1:((spec_l1In.f a1 0 (wrap64 ((l0_1.length:Int) - 1))).bind fun a6=>(if a6=true then((spec_l1In.f a2 0 (wrap64 ((l0_1.length:Int) - 1))).bind fun a4=>(some a4)) else(some false)))=some r:=by rw [if_pos rfl] at H;exact H);clear H;have H:=H1;clear H1;replace H:=Option.bind_eq_some_iff.mp H;obtain⟨a6,b5,H⟩:=H;replace H:(if a6=true then((spec_l1In.f a2 0 (wrap64 ((l0_1.length:Int) - 1))).bind fun a4=>(some a4)) else(some false))=some r:=H;have A6:=zqm b5;clear b5
  by_cases c7:a6=true
  ·subst c7;(have H1:((spec_l1In.f a2 0 (wrap64 ((l0_1.length:Int) - 1))).bind fun a4=>(some a4))=some r:=by rw [if_pos rfl] at H;exact H);clear H;have H:=H1;clear H1;replace H:=Option.bind_eq_some_iff.mp H;obtain⟨a4,b6,H⟩:=H;replace H:(some a4)=some r:=H;have A8:=zqm b6;clear b6;obtain rfl:=Option.some.inj H
   go_enter Try.func106,Try.ntmps106
   go_wp2_with (first|((with_reducible refine gate_dst (N:=3) rfl ?_);(try(refine gate_guard (by rfl) ?_;dsimp only));refine box_event ?hg (N:=3) ?hd (cs:= #[.slice A0_0 l0_0.length c0_0,.slice A0_1 l0_1.length c0_1]) (t:=26) ?hr ?_;(case hd=>rfl);(case hg=>rfl);(case hr=>first|(go_simp;done)|(go_simp;rfl));intro a3 hg w9 hbox hb;have a7:=zqm (below_step zq0 hb);have a0:=zqm (hbox);have b3:=zqm ((by rw [hg];exact(below_size zq0):w.heap.size≤a3));have a5:=zqm ((by rw [hg];exact(below_size zq0):w.heap.size≤a3));clear HB;have HB:=a7;clear a7 hb hbox hg;have c1:w9.cell? ⟨a3,0,none⟩=some (.slice A0_0 l0_0.length c0_0):=(blk_cell a0.out 0).trans rfl;have c2:w9.cell? ⟨a3,1,none⟩=some (.slice A0_1 l0_1.length c0_1):=(blk_cell a0.out 1).trans rfl;have d3:=blk_frozen a0.out 0;have d4:=blk_frozen a0.out 1)|((with_reducible refine gate_callee (f:=17) rfl ?_);refine goesL_ (some 8) rfl rfl Try.func17 zqk rfl #[.agg #[.slice A0_0 l0_0.length c0_0,.slice A0_1 l0_1.length c0_1]] rfl zq1 ?_;(with_reducible refine(spec_LogicOk.calls k _ _ l0_0 _ _ l0_1 true _ ?side1 ?side2 ?side3 ?side4 A4.out).mono ?_);(case side1=> exact zq235);(case side2=>exact a8.out);(case side3=> exact zq236);(case side4=>exact a9.out);rintro e b7 ⟨rfl,hb⟩;refine⟨_,rfl,?_⟩;replace a0:=zqm (blk_below (g:=a3) (o:= .cells #[.slice A0_0 l0_0.length c0_0,.slice A0_1 l0_1.length c0_1] 26 (0,0)) zq2 hb);replace HB:=zqm (below_step zq9 hb);clear hb;have c3:b7.cell? ⟨a3,0,none⟩=some (.slice A0_0 l0_0.length c0_0):=(blk_cell a0.out 0).trans rfl;have c4:b7.cell? ⟨a3,1,none⟩=some (.slice A0_1 l0_1.length c0_1):=(blk_cell a0.out 1).trans rfl;have d5:=blk_frozen a0.out 0;have d6:=blk_frozen a0.out 1)|(go_at_call 78;(with_reducible refine(spec_l1In.calls a1 0 (wrap64 ((l0_1.length:Int) - 1)) true _ A6.out).mono ?_);rintro e w' ⟨rfl,⟨nd,rfl⟩⟩)|(go_at_call 78;(with_reducible refine(spec_l1In.calls a2 0 (wrap64 ((l0_1.length:Int) - 1)) a4 _ A8.out).mono ?_);rintro e w' ⟨rfl,⟨nd,rfl⟩⟩))
   go_ret
   exact⟨zq11,zq9⟩
  ·replace c7:=Bool.eq_false_iff.mpr c7;subst c7;(have H1:(some false)=some r:=by rw [if_neg (show¬(false=true) by decide)] at H;exact H);clear H;have H:=H1;clear H1;obtain rfl:=Option.some.inj H
   go_enter Try.func106,Try.ntmps106
   go_wp2_with (first|((with_reducible refine gate_dst (N:=3) rfl ?_);(try(refine gate_guard (by rfl) ?_;dsimp only));refine box_event ?hg (N:=3) ?hd (cs:= #[.slice A0_0 l0_0.length c0_0,.slice A0_1 l0_1.length c0_1]) (t:=26) ?hr ?_;(case hd=>rfl);(case hg=>rfl);(case hr=>first|(go_simp;done)|(go_simp;rfl));intro a3 hg b8 hbox hb;have a7:=zqm (below_step zq0 hb);have a0:=zqm (hbox);have b3:=zqm ((by rw [hg];exact(below_size zq0):w.heap.size≤a3));have a5:=zqm ((by rw [hg];exact(below_size zq0):w.heap.size≤a3));clear HB;have HB:=a7;clear a7 hb hbox hg;have c6:b8.cell? ⟨a3,0,none⟩=some (.slice A0_0 l0_0.length c0_0):=(blk_cell a0.out 0).trans rfl;have c8:b8.cell? ⟨a3,1,none⟩=some (.slice A0_1 l0_1.length c0_1):=(blk_cell a0.out 1).trans rfl;have d7:=blk_frozen a0.out 0;have d8:=blk_frozen a0.out 1)|((with_reducible refine gate_callee (f:=17) rfl ?_);refine goesL_ (some 8) rfl rfl Try.func17 zqk rfl #[.agg #[.slice A0_0 l0_0.length c0_0,.slice A0_1 l0_1.length c0_1]] rfl zq1 ?_;(with_reducible refine(spec_LogicOk.calls k _ _ l0_0 _ _ l0_1 true _ ?side1 ?side2 ?side3 ?side4 A4.out).mono ?_);(case side1=> exact zq235);(case side2=>exact a8.out);(case side3=> exact zq236);(case side4=>exact a9.out);rintro e b9 ⟨rfl,hb⟩;refine⟨_,rfl,?_⟩;replace a0:=zqm (blk_below (g:=a3) (o:= .cells #[.slice A0_0 l0_0.length c0_0,.slice A0_1 l0_1.length c0_1] 26 (0,0)) zq2 hb);replace HB:=zqm (below_step zq9 hb);clear hb;have c9:b9.cell? ⟨a3,0,none⟩=some (.slice A0_0 l0_0.length c0_0):=(blk_cell a0.out 0).trans rfl;have d0:b9.cell? ⟨a3,1,none⟩=some (.slice A0_1 l0_1.length c0_1):=(blk_cell a0.out 1).trans rfl;have d9:=blk_frozen a0.out 0;have e0:=blk_frozen a0.out 1)|(go_at_call 78;(with_reducible refine(spec_l1In.calls a1 0 (wrap64 ((l0_1.length:Int) - 1)) false _ A6.out).mono ?_);rintro e w' ⟨rfl,⟨nd,rfl⟩⟩))
   go_ret
   exact⟨zq11,zq9⟩
 ·replace c5:=Bool.eq_false_iff.mpr c5;subst c5;(have H1:(some false)=some r:=by rw [if_neg (show¬(false=true) by decide)] at H;exact H);clear H;have H:=H1;clear H1;obtain rfl:=Option.some.inj H
  go_enter Try.func106,Try.ntmps106
  go_wp2_with (first|((with_reducible refine gate_dst (N:=3) rfl ?_);(try(refine gate_guard (by rfl) ?_;dsimp only));refine box_event ?hg (N:=3) ?hd (cs:= #[.slice A0_0 l0_0.length c0_0,.slice A0_1 l0_1.length c0_1]) (t:=26) ?hr ?_;(case hd=>rfl);(case hg=>rfl);(case hr=>first|(go_simp;done)|(go_simp;rfl));intro a3 hg c0 hbox hb;have a7:=zqm (below_step zq0 hb);have a0:=zqm (hbox);have b3:=zqm ((by rw [hg];exact(below_size zq0):w.heap.size≤a3));have a5:=zqm ((by rw [hg];exact(below_size zq0):w.heap.size≤a3));clear HB;have HB:=a7;clear a7 hb hbox hg;have d1:c0.cell? ⟨a3,0,none⟩=some (.slice A0_0 l0_0.length c0_0):=(blk_cell a0.out 0).trans rfl;have d2:c0.cell? ⟨a3,1,none⟩=some (.slice A0_1 l0_1.length c0_1):=(blk_cell a0.out 1).trans rfl;have e1:=blk_frozen a0.out 0;have e2:=blk_frozen a0.out 1)|((with_reducible refine gate_callee (f:=17) rfl ?_);refine goesL_ (some 8) rfl rfl Try.func17 zqk rfl #[.agg #[.slice A0_0 l0_0.length c0_0,.slice A0_1 l0_1.length c0_1]] rfl zq1 ?_;(with_reducible refine(spec_LogicOk.calls k _ _ l0_0 _ _ l0_1 false _ ?side1 ?side2 ?side3 ?side4 A4.out).mono ?_);(case side1=> exact zq235);(case side2=>exact a8.out);(case side3=> exact zq236);(case side4=>exact a9.out);rintro e e3 ⟨rfl,hb⟩;refine⟨_,rfl,?_⟩;replace a0:=zqm (blk_below (g:=a3) (o:= .cells #[.slice A0_0 l0_0.length c0_0,.slice A0_1 l0_1.length c0_1] 26 (0,0)) zq2 hb);replace HB:=zqm (below_step zq9 hb);clear hb))
  go_ret
  exact⟨zq11,zq9⟩
def spec_NotOf.f (k : Nat) (l0_0 : List (List Int)) (l0_1 : List Int) (a1 : Int) : Option (Int) := (spec_l2Both.f k l0_0 l0_1 a1 a1).bind fun t623 => (if t623 = true then (if 0 ≤ a1 then (if a1 < (l0_1.length : Int) then (some (rd l0_1 a1)) else (none)) else (none)) else (some (-1)))
set_option maxHeartbeats 8000000 in
set_option maxRecDepth 100000 in
theorem spec_NotOf.calls (k : Nat) (A0_0 : Option Addr) (c0_0 : Nat) (l0_0 : List (List Int)) (A0_1 : Option Addr) (c0_1 : Nat) (l0_1 : List Int) (a1 : Int) (r : Int) (w : World) (hr0_0 : Kd.C (Kd.slice 3 (Kd.int .i64)) w A0_0 l0_0.length l0_0) (hc0_0 : l0_0.length ≤ c0_0) (hr0_1 : Kd.C (Kd.int .i64) w A0_1 l0_1.length l0_1) (hc0_1 : l0_1.length ≤ c0_1) (h : spec_NotOf.f k l0_0 l0_1 a1 = some r) :
  Calls Try.prog 89 #[.agg #[.slice A0_0 l0_0.length c0_0, .slice A0_1 l0_1.length c0_1], .int .i64 a1] w fun e w' => e = .returned (.int .i64 r) ∧ Below w.heap.size w w' := by
 have hu26:=Try.underlying26;have b2:=zqm hr0_0;have b0:=zqm hc0_0;clear hr0_0 hc0_0;have a5:=zqm hr0_1;have b1:=zqm hc0_1;clear hr0_1 hc0_1;have HB:=zqm (Below.refl w.heap.size w);have H:((spec_l2Both.f k l0_0 l0_1 a1 a1).bind fun a6=>(if a6=true then(if 0≤a1 then(if a1<(l0_1.length:Int) then(some (rd l0_1 a1)) else(none)) else(none)) else(some (-1))))=some r:=h;clear h;replace H:=Option.bind_eq_some_iff.mp H;obtain⟨a6,b4,H⟩:=H;replace H:(if a6=true then(if 0≤a1 then(if a1<(l0_1.length:Int) then(some (rd l0_1 a1)) else(none)) else(none)) else(some (-1)))=some r:=H;have A3:=zqm b4;clear b4
 by_cases c4:a6=true
 ·subst c4;(have H1:(if 0≤a1 then(if a1<(l0_1.length:Int) then(some (rd l0_1 a1)) else(none)) else(none))=some r:=by rw [if_pos rfl] at H;exact H);clear H;have H:=H1;clear H1
  by_cases c5:0≤a1
  ·rw [if_pos c5] at H;have d3:decide (0≤a1)=true:=decide_eq_true c5;clear c5
   by_cases c6:a1<(l0_1.length:Int)
   ·rw [if_pos c6] at H;have d4:decide (a1<(l0_1.length:Int))=true:=decide_eq_true c6;clear c6;obtain rfl:=Option.some.inj H
    go_enter Try.func89,Try.ntmps89
    go_wp2_with (first|((with_reducible refine gate_dst (N:=2) rfl ?_);refine box_event ?hg (N:=2) ?hd (cs:= #[.slice A0_0 l0_0.length c0_0,.slice A0_1 l0_1.length c0_1]) (t:=26) ?hr ?_;(case hd=>rfl);(case hg=>rfl);(case hr=>first|(go_simp;done)|(go_simp;rfl));intro a2 hg w7 hbox hb;have a7:=zqm (below_step zq0 hb);have a0:=zqm (hbox);have b3:=zqm ((by rw [hg];exact(below_size zq0):w.heap.size≤a2));have a3:=zqm ((by rw [hg];exact(below_size zq0):w.heap.size≤a2));clear HB;have HB:=a7;clear a7 hb hbox hg;have c8:w7.cell? ⟨a2,0,none⟩=some (.slice A0_0 l0_0.length c0_0):=(blk_cell a0.out 0).trans rfl;have c9:w7.cell? ⟨a2,1,none⟩=some (.slice A0_1 l0_1.length c0_1):=(blk_cell a0.out 1).trans rfl;have d0:=blk_frozen a0.out 0;have d1:=blk_frozen a0.out 1)|((with_reducible refine gate_callee (f:=106) rfl ?_);refine goesL_ (some 8) rfl rfl Try.func106 zqk rfl #[.agg #[.slice A0_0 l0_0.length c0_0,.slice A0_1 l0_1.length c0_1],.int .i64 a1,.int .i64 a1] rfl zq1 ?_;(with_reducible refine(spec_l2Both.calls k _ _ l0_0 _ _ l0_1 a1 a1 true _ ?side1 ?side2 ?side3 ?side4 A3.out).mono ?_);(case side1=> exact zq75);(case side2=>exact b0.out);(case side3=> exact zq35);(case side4=>exact b1.out);rintro e w9 ⟨rfl,hb⟩;refine⟨_,rfl,?_⟩;replace a0:=zqm (blk_below (g:=a2) (o:= .cells #[.slice A0_0 l0_0.length c0_0,.slice A0_1 l0_1.length c0_1] 26 (0,0)) zq2 hb);replace HB:=zqm (below_step zq53 hb);clear hb;have b7:w9.cell? ⟨a2,0,none⟩=some (.slice A0_0 l0_0.length c0_0):=(blk_cell a0.out 0).trans rfl;have b8:w9.cell? ⟨a2,1,none⟩=some (.slice A0_1 l0_1.length c0_1):=(blk_cell a0.out 1).trans rfl;have c1:=blk_frozen a0.out 0;have c2:=blk_frozen a0.out 1;have a8:0≤(a1:Int):=zqo;have a9:a1<(l0_1.length:Int):=zqo;obtain⟨d2,b6,a4⟩:=Kd.at_int a5.out a1 a8 a9;cases b6;replace a4:=(HB.out.cell (World.block_lt_of_cell? w _ a4)).trans a4;replace a8:=eq_true a8;replace a9:=eq_true a9))
    go_ret
    exact⟨zq11,zq53⟩
   ·rw [if_neg c6] at H;exact absurd H (by simp)
  ·rw [if_neg c5] at H;exact absurd H (by simp)
 ·replace c4:=Bool.eq_false_iff.mpr c4;subst c4;(have H1:(some (-1))=some r:=by rw [if_neg (show¬(false=true) by decide)] at H;exact H);clear H;have H:=H1;clear H1;obtain rfl:=Option.some.inj H
  go_enter Try.func89,Try.ntmps89
  go_wp2_with (first|((with_reducible refine gate_dst (N:=2) rfl ?_);refine box_event ?hg (N:=2) ?hd (cs:= #[.slice A0_0 l0_0.length c0_0,.slice A0_1 l0_1.length c0_1]) (t:=26) ?hr ?_;(case hd=>rfl);(case hg=>rfl);(case hr=>first|(go_simp;done)|(go_simp;rfl));intro a2 hg b5 hbox hb;have a7:=zqm (below_step zq0 hb);have a0:=zqm (hbox);have b3:=zqm ((by rw [hg];exact(below_size zq0):w.heap.size≤a2));have a3:=zqm ((by rw [hg];exact(below_size zq0):w.heap.size≤a2));clear HB;have HB:=a7;clear a7 hb hbox hg;have b9:b5.cell? ⟨a2,0,none⟩=some (.slice A0_0 l0_0.length c0_0):=(blk_cell a0.out 0).trans rfl;have c0:b5.cell? ⟨a2,1,none⟩=some (.slice A0_1 l0_1.length c0_1):=(blk_cell a0.out 1).trans rfl;have c3:=blk_frozen a0.out 0;have c7:=blk_frozen a0.out 1)|((with_reducible refine gate_callee (f:=106) rfl ?_);refine goesL_ (some 8) rfl rfl Try.func106 zqk rfl #[.agg #[.slice A0_0 l0_0.length c0_0,.slice A0_1 l0_1.length c0_1],.int .i64 a1,.int .i64 a1] rfl zq1 ?_;(with_reducible refine(spec_l2Both.calls k _ _ l0_0 _ _ l0_1 a1 a1 false _ ?side1 ?side2 ?side3 ?side4 A3.out).mono ?_);(case side1=> exact zq75);(case side2=>exact b0.out);(case side3=> exact zq35);(case side4=>exact b1.out);rintro e d5 ⟨rfl,hb⟩;refine⟨_,rfl,?_⟩;replace a0:=zqm (blk_below (g:=a2) (o:= .cells #[.slice A0_0 l0_0.length c0_0,.slice A0_1 l0_1.length c0_1] 26 (0,0)) zq2 hb);replace HB:=zqm (below_step zq53 hb);clear hb))
  go_ret
  exact⟨zq11,zq53⟩
def spec_BlocksWith.l0 : Nat → Int → Int → List Int → Int → Option (Int)
 | 0, _, _, _, _ => none
 | k + 1, x1, x5, x6, x7 => if x7 < (x6.length : Int) then (if 0 ≤ x7 then (if 0 ≤ x1 then (spec_BlocksWith.l0 k x1 (wrap64 (x5 + (Int.tmod (shr .i64 (rd x6 x7) x1) 2))) x6 (wrap64 (x7 + 1))) else (none)) else (none)) else (some x5)
def spec_BlocksWith.f (k : Nat) (l0_0 : List (List Int)) (l0_1 : List Int) (a1 : Int) : Option (Int) := (spec_NotOf.f k l0_0 l0_1 a1).bind fun t626 => (if t626 < 0 then (some (-1)) else ((spec_BlocksOf.f k l0_0 l0_1).bind fun t627 => (spec_BlocksWith.l0 k a1 0 t627 0)))
set_option maxHeartbeats 8000000 in
set_option maxRecDepth 100000 in
theorem spec_BlocksWith.calls (k : Nat) (A0_0 : Option Addr) (c0_0 : Nat) (l0_0 : List (List Int)) (A0_1 : Option Addr) (c0_1 : Nat) (l0_1 : List Int) (a1 : Int) (r : Int) (w : World) (hr0_0 : Kd.C (Kd.slice 3 (Kd.int .i64)) w A0_0 l0_0.length l0_0) (hc0_0 : l0_0.length ≤ c0_0) (hr0_1 : Kd.C (Kd.int .i64) w A0_1 l0_1.length l0_1) (hc0_1 : l0_1.length ≤ c0_1) (h : spec_BlocksWith.f k l0_0 l0_1 a1 = some r) :
  Calls Try.prog 24 #[.agg #[.slice A0_0 l0_0.length c0_0, .slice A0_1 l0_1.length c0_1], .int .i64 a1] w fun e w' => e = .returned (.int .i64 r) ∧ Below w.heap.size w w' := by
 have hu26:=Try.underlying26;have b2:=zqm hr0_0;have b0:=zqm hc0_0;clear hr0_0 hc0_0;have b3:=zqm hr0_1;have b1:=zqm hc0_1;clear hr0_1 hc0_1;have HB:=zqm (Below.refl w.heap.size w);have H:((spec_NotOf.f k l0_0 l0_1 a1).bind fun a6=>(if a6<0 then(some (-1)) else((spec_BlocksOf.f k l0_0 l0_1).bind fun a3=>(spec_BlocksWith.l0 k a1 0 a3 0))))=some r:=h;clear h;replace H:=Option.bind_eq_some_iff.mp H;obtain⟨a6,e0,H⟩:=H;replace H:(if a6<0 then(some (-1)) else((spec_BlocksOf.f k l0_0 l0_1).bind fun a3=>(spec_BlocksWith.l0 k a1 0 a3 0)))=some r:=H;have A3:=zqm e0;clear e0
 by_cases c4:a6<0
 ·rw [if_pos c4] at H;have d2:decide (a6<0)=true:=decide_eq_true c4;clear c4;obtain rfl:=Option.some.inj H
  go_enter Try.func24,Try.ntmps24
  go_wp2_with (first|((with_reducible refine gate_dst (N:=2) rfl ?_);refine box_event ?hg (N:=2) ?hd (cs:= #[.slice A0_0 l0_0.length c0_0,.slice A0_1 l0_1.length c0_1]) (t:=26) ?hr ?_;(case hd=>rfl);(case hg=>rfl);(case hr=>first|(go_simp;done)|(go_simp;rfl));intro a2 hg w5 hbox hb;have b6:=zqm (below_step zq0 hb);have a0:=zqm (hbox);have d7:=zqm ((by rw [hg];exact(below_size zq0):w.heap.size≤a2));have a5:=zqm ((by rw [hg];exact(below_size zq0):w.heap.size≤a2));clear HB;have HB:=b6;clear b6 hb hbox hg;have d3:w5.cell? ⟨a2,0,none⟩=some (.slice A0_0 l0_0.length c0_0):=(blk_cell a0.out 0).trans rfl;have d4:w5.cell? ⟨a2,1,none⟩=some (.slice A0_1 l0_1.length c0_1):=(blk_cell a0.out 1).trans rfl;have d5:=blk_frozen a0.out 0;have d6:=blk_frozen a0.out 1)|((with_reducible refine gate_callee (f:=89) rfl ?_);refine goesL_ (some 10) rfl rfl Try.func89 zqk rfl #[.agg #[.slice A0_0 l0_0.length c0_0,.slice A0_1 l0_1.length c0_1],.int .i64 a1] rfl zq1 ?_;(with_reducible refine(spec_NotOf.calls k _ _ l0_0 _ _ l0_1 a1 a6 _ ?side1 ?side2 ?side3 ?side4 A3.out).mono ?_);(case side1=> exact zq75);(case side2=>exact b0.out);(case side3=> exact zq66);(case side4=>exact b1.out);rintro e w7 ⟨rfl,hb⟩;refine⟨_,rfl,?_⟩;replace a0:=zqm (blk_below (g:=a2) (o:= .cells #[.slice A0_0 l0_0.length c0_0,.slice A0_1 l0_1.length c0_1] 26 (0,0)) zq2 hb);replace HB:=zqm (below_step zq9 hb);clear hb))
  go_ret
  exact⟨zq11,zq9⟩
 ·rw [if_neg c4] at H;have d2:decide (a6<0)=false:=decide_eq_false c4;clear c4;replace H:=Option.bind_eq_some_iff.mp H;obtain⟨a3,e1,H⟩:=H;replace H:(spec_BlocksWith.l0 k a1 0 a3 0)=some r:=H;have A8:=zqm e1;clear e1;have H':=zqm H;clear H
  go_enter Try.func24,Try.ntmps24
  go_wp2_with (first|((with_reducible refine gate_dst (N:=2) rfl ?_);refine box_event ?hg (N:=2) ?hd (cs:= #[.slice A0_0 l0_0.length c0_0,.slice A0_1 l0_1.length c0_1]) (t:=26) ?hr ?_;(case hd=>rfl);(case hg=>rfl);(case hr=>first|(go_simp;done)|(go_simp;rfl));intro a2 hg w9 hbox hb;have b6:=zqm (below_step zq0 hb);have a0:=zqm (hbox);have d7:=zqm ((by rw [hg];exact(below_size zq0):w.heap.size≤a2));have a5:=zqm ((by rw [hg];exact(below_size zq0):w.heap.size≤a2));clear HB;have HB:=b6;clear b6 hb hbox hg;have c0:w9.cell? ⟨a2,0,none⟩=some (.slice A0_0 l0_0.length c0_0):=(blk_cell a0.out 0).trans rfl;have c1:w9.cell? ⟨a2,1,none⟩=some (.slice A0_1 l0_1.length c0_1):=(blk_cell a0.out 1).trans rfl;have c7:=blk_frozen a0.out 0;have c9:=blk_frozen a0.out 1)|((with_reducible refine gate_callee (f:=89) rfl ?_);refine goesL_ (some 10) rfl rfl Try.func89 zqk rfl #[.agg #[.slice A0_0 l0_0.length c0_0,.slice A0_1 l0_1.length c0_1],.int .i64 a1] rfl zq1 ?_;(with_reducible refine(spec_NotOf.calls k _ _ l0_0 _ _ l0_1 a1 a6 _ ?side1 ?side2 ?side3 ?side4 A3.out).mono ?_);(case side1=> exact zq75);(case side2=>exact b0.out);(case side3=> exact zq66);(case side4=>exact b1.out);rintro e e4 ⟨rfl,hb⟩;refine⟨_,rfl,?_⟩;replace a0:=zqm (blk_below (g:=a2) (o:= .cells #[.slice A0_0 l0_0.length c0_0,.slice A0_1 l0_1.length c0_1] 26 (0,0)) zq2 hb);replace HB:=zqm (below_step zq9 hb);clear hb;have c5:e4.cell? ⟨a2,0,none⟩=some (.slice A0_0 l0_0.length c0_0):=(blk_cell a0.out 0).trans rfl;have c6:e4.cell? ⟨a2,1,none⟩=some (.slice A0_1 l0_1.length c0_1):=(blk_cell a0.out 1).trans rfl;have d0:=blk_frozen a0.out 0;have d1:=blk_frozen a0.out 1)|((with_reducible refine gate_callee (f:=32) rfl ?_);refine goesL_ (some 13) rfl rfl Try.func32 zqk rfl #[.agg #[.slice A0_0 l0_0.length c0_0,.slice A0_1 l0_1.length c0_1]] rfl zq1 ?_;(with_reducible refine(spec_BlocksOf.calls k _ _ l0_0 _ _ l0_1 a3 _ ?side1 ?side2 ?side3 ?side4 A8.out).mono ?_);(case side1=> exact zq75);(case side2=>exact b0.out);(case side3=> exact zq66);(case side4=>exact b1.out);rintro e f9 ⟨e8,rfl,e3,hb⟩;refine⟨_,rfl,?_⟩;have d8:=zqm (Kd.R_lower e3 (below_size zq9));replace a0:=zqm (blk_below (g:=a2) (o:= .cells #[.slice A0_0 l0_0.length c0_0,.slice A0_1 l0_1.length c0_1] 26 (0,0)) zq2 hb);replace HB:=zqm (below_step zq9 hb);clear hb e3))
  go_loopg [5,7] k (fun kq v5 v7 w'=> ∃(a8:Int) (a4:Int),v5= .int .i64 a8∧v7= .int .i64 a4∧Aside0 (spec_BlocksWith.l0 kq a1 a8 a3 a4=some r)∧Aside0 (kq≤k)∧Aside0 (Kd.R (Kd.int .i64) 3 w' w.heap.size (fun _=>True) e8 a3)∧Aside0 (w'.heap[a2]? =some (.cells #[(.slice A0_0 l0_0.length c0_0),(.slice A0_1 l0_1.length c0_1)] 26 (0,0)))∧Aside0 (Below w.heap.size w w'))
  case atStart=>exact⟨(0),(0),(by first|rfl|(simp;done)|(simp [*];done)),(by first|rfl|(simp;done)|(simp [*];done)),H',⟨Nat.le_refl _⟩,⟨zq312⟩,⟨zq2⟩,⟨zq9⟩⟩
  case round=>
   clear H';(try clear c2);(try clear p2);(try clear c3);(try clear c4);(try clear d2);(try clear c8);(try clear c0);(try clear c1);(try clear c5);(try clear c6);(try clear d3);(try clear d4);(try clear c7);(try clear c9);(try clear d0);(try clear d1);(try clear d5);(try clear d6);obtain⟨a8,a4,rfl,rfl,HA,e2,HO_6,a0,HB⟩:=hrel
   cases gk with
   |zero=>exact absurd HA.out (by simp [spec_BlocksWith.l0])
   |succ k1=>
    have H:=HA.out;clear HA;simp only [spec_BlocksWith.l0] at H
    by_cases a9:a4<(a3.length:Int)
    ·rw [if_pos a9] at H;have d9:decide (a4<(a3.length:Int))=true:=decide_eq_true a9;clear a9
     by_cases b9:0≤a4
     ·rw [if_pos b9] at H;have f2:decide (0≤a4)=true:=decide_eq_true b9;clear b9
      by_cases b5:0≤a1
      ·rw [if_pos b5] at H;have f3:=eq_true b5;have f4:decide (0≤a1)=true:=decide_eq_true b5;clear b5;obtain⟨b4,a7⟩: ∃j_:Int,(shr .i64 (rd a3 a4) a1)=j_:=⟨_,rfl⟩;(replace H:(spec_BlocksWith.l0 k1 a1 (wrap64 (a8+(Int.tmod (b4) 2))) a3 (wrap64 (a4+1)))=some r:=by first|(rw [a7] at H;exact H)|(simp only [a7] at H ⊢;exact H));have f0:((rd a3 a4) / 2 ^ min a1.toNat 64)=b4:=a7;have hji17z:a1≤64→((rd a3 a4) / 2 ^ a1.toNat)=b4:=shr_small a7;have H':=zqm H;clear H;obtain⟨f5,f7,e6⟩:=Kd.R_slice HO_6.out;subst e6;have b7:0≤(a4:Int):=zqo;have b8:a4<(a3.length:Int):=zqo;obtain⟨f1,e5,e9⟩:=Kd.at_int (Kd.R_reads' HO_6.out).2.2 a4 b7 b8
       cases e5
       replace b7:=eq_true b7;replace b8:=eq_true b8
       go_wp2
       go_roundg k1
       (case measure=>have:=e2.out;omega);case rel=>exact⟨(wrap64 (a8+(Int.tmod (b4) 2))),(wrap64 (a4+1)),(by first|rfl|(simp;done)|(simp only [← a7] <;> (first|rfl|simp))|(simp [*];done)),(by first|rfl|(simp;done)|(simp [*];done)),H',⟨by have:=e2.out;omega⟩,⟨zq115⟩,⟨zq2⟩,⟨zq9⟩⟩
      ·rw [if_neg b5] at H;exact absurd H (by simp)
     ·rw [if_neg b9] at H;exact absurd H (by simp)
    ·rw [if_neg a9] at H;have d9:decide (a4<(a3.length:Int))=false:=decide_eq_false a9;clear a9;obtain rfl:=Option.some.inj H;obtain⟨f6,f8,e7⟩:=Kd.R_slice HO_6.out;subst e7
     go_wp2
     go_ret
     exact⟨zq11,zq9⟩
end Go.Proofs.Ytcbjpdaogicibaa.Print
end
section
namespace Oml
universe u
namespace OL
variable {α : Type u} (L : OL α)
theorem neg_inj {a b : α} (h : L.neg a = L.neg b) : a = b := by
  have := congrArg L.neg h; rwa [L.neg_neg, L.neg_neg] at this
theorem meet_comm (a b : α) : L.meet a b = L.meet b a :=
  L.le_antisymm _ _ (L.le_meet _ _ _ (L.meet_r _ _) (L.meet_l _ _)) (L.le_meet _ _ _ (L.meet_r _ _) (L.meet_l _ _))
theorem meet_le_l {a b c : α} (h : L.le a c) : L.le (L.meet a b) c := L.le_trans _ _ _ (L.meet_l _ _) h
theorem meet_le_r {a b c : α} (h : L.le b c) : L.le (L.meet a b) c := L.le_trans _ _ _ (L.meet_r _ _) h
theorem meet_mono {a b c d : α} (h : L.le a c) (k : L.le b d) : L.le (L.meet a b) (L.meet c d) := L.le_meet _ _ _ (L.meet_le_l h) (L.meet_le_r k)
theorem meet_assoc (a b c : α) : L.meet (L.meet a b) c = L.meet a (L.meet b c) :=
  L.le_antisymm _ _ (L.le_meet _ _ _ (L.meet_le_l (L.meet_l _ _)) (L.meet_mono (L.meet_r _ _) (L.le_refl _)))
    (L.le_meet _ _ _ (L.meet_mono (L.le_refl _) (L.meet_l _ _)) (L.meet_le_r (L.meet_r _ _)))
theorem join_eq_r (a b : α) : L.join a b = b ↔ L.le a b := by
  constructor
  · intro h; rw [← h]; exact L.join_l _ _
  · intro h; exact L.le_antisymm _ _ (L.join_le _ _ _ h (L.le_refl _)) (L.join_r _ _)
theorem join_eq_l (a b : α) : L.join a b = a ↔ L.le b a := by rw [L.join_comm]; exact L.join_eq_r b a
theorem meet_self (a : α) : L.meet a a = a := (L.meet_eq_l a a).2 (L.le_refl _)
theorem neg_join (a b : α) : L.neg (L.join a b) = L.meet (L.neg a) (L.neg b) := by
  apply L.neg_inj
  rw [L.neg_neg, L.neg_meet, L.neg_neg, L.neg_neg]
theorem join_bot (a : α) : L.join a L.bot = a := (L.join_eq_l _ _).2 (L.bot_le _)
theorem join_meet_absorb (a b : α) : L.join a (L.meet a b) = a := (L.join_eq_l _ _).2 (L.meet_l _ _)
def Keeps : Prop := ∀ a b, L.le a b → L.join a (L.meet b (L.neg a)) = b
variable {L}
theorem C_refl (a : α) : L.C a a := by unfold C; rw [L.meet_self, L.meet_neg, L.join_bot]
theorem C_neg {a b : α} (h : L.C a b) : L.C a (L.neg b) := by unfold C at *; rw [L.neg_neg, L.join_comm]; exact h
theorem C_neg_iff (a b : α) : L.C a (L.neg b) ↔ L.C a b := ⟨fun h => by have := C_neg h; rwa [L.neg_neg] at this, C_neg⟩
theorem C_of_le {a b : α} (h : L.le a b) : L.C a b := by
  unfold C; rw [(L.meet_eq_l a b).2 h]; exact L.join_meet_absorb _ _
theorem C_bot (a : α) : L.C a L.bot := (C_neg_iff a L.bot).1 (C_of_le (L.le_top a))
theorem Keeps.C_symm (K : L.Keeps) {a b : α} (h : L.C a b) : L.C b a := by
  have h1 : L.meet (L.neg a) b = L.meet (L.neg (L.meet a b)) b := by
    have e:L.neg a=L.meet (L.neg (L.meet a b)) (L.neg (L.meet a (L.neg b))):=by rw [← L.neg_join,h]
    rw [e,L.meet_assoc]
    congr 1
    apply L.le_antisymm
    · exact L.meet_r _ _
    · refine L.le_meet _ _ _ ?_ (L.le_refl _)
      rw [L.neg_meet,L.neg_neg]
      exact L.join_r _ _
  have h2:=K _ _ (L.meet_r a b)
  unfold C
  rw [L.meet_comm b a,L.meet_comm b (L.neg a),h1,L.meet_comm (L.neg (L.meet a b)) b]
  exact h2
theorem Keeps.C_neg_l (K : L.Keeps) {a b : α} (h : L.C a b) : L.C (L.neg a) b := K.C_symm (C_neg (K.C_symm h))
end OL
end Oml
end
section
namespace Oml
theorem allN_false {n : Nat} {p : Nat → Bool} : allN n p = false ↔ ∃ i, i < n ∧ p i = false := by
  rw [← Bool.not_eq_true,allN_iff]
  constructor
  · intro h
    apply Classical.byContradiction
    intro k
    exact h fun i hi => by
      cases e:p i
      · exact absurd ⟨i,hi,e⟩ k
      · rfl
  · rintro ⟨i, hi, e⟩ h
    rw [h i hi] at e
    exact absurd e (by simp)
end Oml
end
section
namespace Go.Proofs.Ytcbjpdaogicibaa.Print
open Go.RowKit Go.Proofs.YtcbjpdaogicibaaW.PrintWords Go.Proofs.YtcbjpdaogicibaaW.PrintLast Go.Proofs.YtcbjpdaogicibaaW.PrintMore
open Oml
def inR (n : Nat) (a : Int) : Bool := decide (0 ≤ a) && decide (a < (n : Int))
theorem inR_iff {U : List (List Int)} {a : Int} : inR U.length a = true ↔ In U a := by simp [inR, In]
namespace View
section
variable {W W1 : World} {g : Nat} {U : List (List Int)} {N : List Int} {v : Adr} (h : View W g U N v)
include h
theorem f4 : W.cell? ⟨g, 4, none⟩ = some (.int .i64 (noI U)) := (blk_cell h.blk 4).trans rfl
theorem rowsU (L : Logic U N) : Kd.C (Kd.slice 3 (Kd.int .i64)) W (some v.aU) U.length U := by
  have hs:=L.small
  refine⟨rfl,by omega,fun _=>⟨v.aU,rfl,fun j p hp=>?_⟩⟩
  have hj:j<U.length:=(List.getElem?_eq_some_iff.1 hp).1
  have hin:In U (j:Int):=⟨by omega,by omega⟩
  have hpl : p.length = U.length := by
    have:=L.row j hj
    rw [List.getD_eq_getElem?_getD,hp] at this
    exact this
  refine⟨[.slice (some (v.rU j)) p.length (v.qU j)],rfl,⟨some (v.rU j),v.qU j,rfl,by rw [hpl];have:=h.capR _ hin;simpa using this,?_⟩,fun i u hu=>?_⟩
  · refine ⟨rfl, by omega, fun _ => ⟨v.rU j, rfl, fun i q hq => ?_⟩⟩
    have hi:i<p.length:=(List.getElem?_eq_some_iff.1 hq).1
    refine⟨[.int .i64 q],rfl,rfl,fun z u hu=>?_⟩
    have hz : z = 0 := by
      rcases z with _|z
      · rfl
      · simp at hu
    subst hz
    have hu':Value.int .i64 q=u:=by simpa using hu
    subst hu'
    have:=h.u2 j i hin ⟨by omega,by omega⟩
    simp only [Int.toNat_natCast] at this
    show W.cell? ((v.rU j).add (i*1+0))=_
    rw [Nat.mul_one,Nat.add_zero,this]
    simp [at2,List.getD_eq_getElem?_getD,hp,hq]
  · have hz : i = 0 := by
      rcases i with _|z
      · rfl
      · simp at hu
    subst hz
    have hu':Value.slice (some (v.rU j)) p.length (v.qU j)=u:=by simpa using hu
    subst hu'
    have:=h.u j hin
    simp only [Int.toNat_natCast] at this
    show W.cell? (v.aU.add (j*1+0))=_
    rw [Nat.mul_one,Nat.add_zero,this,hpl]
end
end View
end Go.Proofs.Ytcbjpdaogicibaa.Print
end
section
namespace Go.Proofs.Ytcbjpdaogicibaa.Print
open Go.RowKit Go.Proofs.YtcbjpdaogicibaaW.PrintWords Go.Proofs.YtcbjpdaogicibaaW.PrintLast Go.Proofs.YtcbjpdaogicibaaW.PrintMore
open Oml
theorem lit_C (W : World) (e : TypeId) (xs : List Int) (hm : xs.length ≤ 9223372036854775807) :
    Kd.C (Kd.int .i64) (W.alloc (.cells (nums .i64 xs).toArray e)) (some ⟨W.heap.size,0,none⟩) xs.length xs:=
  (Kd.R_reads' (Kd.R_of_own (ok:=fun _=>True) (own_lit W W.heap.size e .i64 xs (Nat.le_refl _) hm) (fun _ _=>trivial))).2.2
theorem isAnswer_eq (U : List (List Int)) (a : Int) : impl_isAnswer.f U a = some (inR U.length a) := by
  unfold impl_isAnswer.f inR
  by_cases h : a ≥ 0
  · rw [if_pos h]; simp [h]
  · rw [if_neg h]; simp; omega
theorem knows_nil (A : Option Addr) (n c : Nat) (w : World) :
    Calls Try.prog 87 #[.pointer none, .slice A n c] w fun e w' => e = .returned (.bool false) ∧ Below w.heap.size w w' := by
  go_enter Try.func87, Try.ntmps87
  go_wp2_with fail
  go_ret
  exact ⟨rfl, Below.refl _ _⟩
set_option maxHeartbeats 1000000 in
theorem knows_calls (g : Nat) (U : List (List Int)) (N : List Int) (v : Adr) (w : World) (L : Logic U N) (hV : View w g U N v) (A : Option Addr) (c : Nat) (xs : List Int) (n : Nat) (hn : xs.length = n)
    (hr:Kd.C (Kd.int .i64) w A n xs) (hs:n≤100) (b:Bool) (hb:xs.all (inR U.length)=b):
    Calls Try.prog 87 #[.pointer (some ⟨g,0,none⟩),.slice A n c] w fun e w'=>e= .returned (.bool b)∧Below w.heap.size w w':=by
  have hu70:=Try.underlying74
  have HV:=Aside0.mk hV
  have HR:=Aside0.mk hr
  have HL:=Aside0.mk L
  have HN:=Aside0.mk hn
  have HBB:=Aside0.mk hb
  clear hV hr L hn hb
  go_enter Try.func87,Try.ntmps87
  go_wp2_with fail
  go_loopg [11] (n+1) (fun kq v11 W=> ∃i m:Nat,v11= .int .i64 i∧Aside0 (i+kq=n+1)∧Aside0 (i≤n)∧Aside0 (∀j,j<i→inR U.length (at1 xs j)=true)∧W=w.drewN m)
  case atStart=>exact⟨0,0,rfl,⟨by omega⟩,⟨by omega⟩,⟨fun j hj=>absurd hj (by omega)⟩,rfl⟩
  case round =>
    obtain⟨i,m,rfl,HK,HK2,HS,rfl⟩:=hrel
    cases gk with
    |zero=>exact absurd HK.out (by have:=HK2.out;omega)
    |succ kn=>
    by_cases hlt:i<n
    · have hlt' : decide (i < n) = true := decide_eq_true hlt
      have HLT:=Aside0.mk hlt
      obtain⟨ad,e,hx⟩:=ints_cell HR.out i (by omega) (by omega)
      subst e
      simp only [Int.toNat_natCast] at hx
      have p1:(i<n)=True:=eq_true hlt
      have h0:=HV.out.f0
      have HUC:=Aside0.mk (HV.out.rowsU HL.out)
      clear hlt
      cases hi:inR U.length (at1 xs i) with
      | true =>
        have HI:=Aside0.mk hi
        have HA:=Aside0.mk (show impl_isAnswer.f U (at1 xs i)=some true by rw [isAnswer_eq,hi])
        clear hi
        go_wp2_with (go_at_call 135;(with_reducible refine(impl_isAnswer.calls _ _ U (at1 xs i) true _ ?s1 ?s2 HA.out).mono ?_);(case s1=> exact zq333);(case s2=>exact HV.out.capU);rintro e w' ⟨rfl,⟨nd,rfl⟩⟩)
        go_roundg kn
        case measure=>omega
        case rel => exact ⟨i + 1, _, by first | go_num | (rw [wrap_small (by omega) (by have := HLT.out; omega)]; go_num), ⟨by have := HK.out; omega⟩, ⟨by have := HLT.out; omega⟩, ⟨fun j hj => by
          rcases Nat.lt_or_ge j i with h|h
          · exact HS.out j h
          · obtain rfl : j = i := by omega
            exact HI.out⟩,rfl⟩
      | false =>
        have HI:=Aside0.mk hi
        have HA:=Aside0.mk (show impl_isAnswer.f U (at1 xs i)=some false by rw [isAnswer_eq,hi])
        clear hi
        have hbf : b = false := by
          rw [← HBB.out,Bool.eq_false_iff]
          intro h
          rw [List.all_eq_true] at h
          have hin:i<xs.length:=by have:=HN.out;have:=HLT.out;omega
          have:=h (xs[i]'hin) (List.getElem_mem _)
          have h2:=HI.out
          rw [show at1 xs i=xs[i]'hin by simp [at1,List.getD_eq_getElem?_getD,List.getElem?_eq_getElem hin],this] at h2
          exact absurd h2 (by simp)
        subst hbf
        go_wp2_with (go_at_call 135;(with_reducible refine(impl_isAnswer.calls _ _ U (at1 xs i) false _ ?s1 ?s2 HA.out).mono ?_);(case s1=> exact zq333);(case s2=>exact HV.out.capU);rintro e w' ⟨rfl,⟨nd,rfl⟩⟩)
        go_ret
        exact⟨rfl,zq303⟩
    · have hlt' : decide (i < n) = false := decide_eq_false hlt
      obtain rfl:i=n:=by have:=HK2.out;omega
      have hbt : b = true := by
        rw [← HBB.out,List.all_eq_true]
        intro x hx
        obtain⟨j,hj,rfl⟩:=List.mem_iff_getElem.1 hx
        have:=HS.out j (by have:=HN.out;omega)
        rwa [show at1 xs j=xs[j]'hj by simp [at1,List.getD_eq_getElem?_getD,List.getElem?_eq_getElem hj]] at this
      subst hbt
      clear hlt
      go_wp2_with fail
      go_ret
      exact⟨rfl,zq303⟩
def impl_NoOf.f (l0_0 : List (List Int)) (l0_1 : List Int) : Option (Int) := some (if logicB l0_0 l0_1 = true then (noI l0_0) else (-1))
set_option maxHeartbeats 1000000 in
theorem impl_NoOf.calls (A0_0 : Option Addr) (c0_0 : Nat) (l0_0 : List (List Int)) (A0_1 : Option Addr) (c0_1 : Nat) (l0_1 : List Int) (r : Int) (w : World) (hr0_0 : Kd.C (Kd.slice 3 (Kd.int .i64)) w A0_0 l0_0.length l0_0) (hc0_0 : l0_0.length ≤ c0_0) (hr0_1 : Kd.C (Kd.int .i64) w A0_1 l0_1.length l0_1) (hc0_1 : l0_1.length ≤ c0_1) (h : impl_NoOf.f l0_0 l0_1 = some r) :
    Calls Try.prog 26 #[.agg #[.slice A0_0 l0_0.length c0_0,.slice A0_1 l0_1.length c0_1]] w fun e w'=>e= .returned (.int .i64 r)∧Below w.heap.size w w':=by
  obtain⟨k,hF⟩:=told_facts l0_0
  have hu30:=Try.underlying26
  have hu70:=Try.underlying74
  have HF:=Aside0.mk hF
  have HR0:=Aside0.mk hr0_0
  have HC0:=Aside0.mk hc0_0
  have HR1:=Aside0.mk hr0_1
  have HC1:=Aside0.mk hc0_1
  simp only [impl_NoOf.f,Option.some.injEq] at h
  clear hr0_0 hc0_0 hr0_1 hc0_1 hF
  cases hL:logicB l0_0 l0_1 with
  | false =>
    rw [hL] at h
    have hr_:(-1)=r:=by simpa using h
    subst hr_
    have HLB:=Aside0.mk hL
    clear h hL
    go_enter Try.func26,Try.ntmps26
    go_wp2_with (first|((with_reducible refine gate_dst (N:=1) rfl ?_);refine box_event ?hg (N:=1) ?hd (cs:= #[.slice A0_0 l0_0.length c0_0,.slice A0_1 l0_1.length c0_1]) (t:=26) ?hr ?_;(case hd=>rfl);(case hg=>rfl);(case hr=>first|(go_simp;done)|(go_simp;rfl));intro gb hg_ w1 hbox hb;have HB:=Aside0.mk hb;have hx0:w1.cell? ⟨gb,0,none⟩=some (.slice A0_0 l0_0.length c0_0):=(blk_cell hbox 0).trans rfl;have hx1:w1.cell? ⟨gb,1,none⟩=some (.slice A0_1 l0_1.length c0_1):=(blk_cell hbox 1).trans rfl;have HX:=Aside0.mk hbox;clear hbox hb hg_)|(go_at_call 70;(with_reducible refine(told_n k _ _ l0_0 _ _ l0_1 _ ?s1 ?s2 ?s3 ?s4 HF.out HLB.out).mono ?_);(case s1=>exact Kd.C_below HR0.out HB.out);(case s2=>exact HC0.out);(case s3=>exact Kd.C_below HR1.out HB.out);(case s4=>exact HC1.out);rintro e w2 ⟨rfl,hb⟩;have HB2:=Aside0.mk (below_step HB.out hb);clear hb hx0 hx1 HX HB))
    go_ret
    exact⟨rfl,HB2.out⟩
  | true =>
    rw [hL] at h
    have hr_:(noI l0_0)=r:=by simpa using h
    subst hr_
    have HLB:=Aside0.mk hL
    have HLg:=Aside0.mk (logicB_iff.1 hL)
    clear h hL
    go_enter Try.func26,Try.ntmps26
    go_wp2_with (first|((with_reducible refine gate_dst (N:=1) rfl ?_);refine box_event ?hg (N:=1) ?hd (cs:= #[.slice A0_0 l0_0.length c0_0,.slice A0_1 l0_1.length c0_1]) (t:=26) ?hr ?_;(case hd=>rfl);(case hg=>rfl);(case hr=>first|(go_simp;done)|(go_simp;rfl));intro gb hg_ w1 hbox hb;have HB:=Aside0.mk hb;have hx0:w1.cell? ⟨gb,0,none⟩=some (.slice A0_0 l0_0.length c0_0):=(blk_cell hbox 0).trans rfl;have hx1:w1.cell? ⟨gb,1,none⟩=some (.slice A0_1 l0_1.length c0_1):=(blk_cell hbox 1).trans rfl;have HX:=Aside0.mk hbox;clear hbox hb hg_)|(go_at_call 70;(with_reducible refine(told_y k _ _ l0_0 _ _ l0_1 _ ?s1 ?s2 ?s3 ?s4 HF.out HLB.out).mono ?_);(case s1=>exact Kd.C_below HR0.out HB.out);(case s2=>exact HC0.out);(case s3=>exact Kd.C_below HR1.out HB.out);(case s4=>exact HC1.out);rintro e w2 ⟨g,v,rfl,hv,hge,hb⟩;have HB2:=Aside0.mk (below_step HB.out hb);have HV:=Aside0.mk hv;clear hv hge hb hx0 hx1 HX HB;have hf_:=HV.out.f4))
    go_ret
    exact⟨rfl,HB2.out⟩
def impl_NotOf.f (l0_0 : List (List Int)) (l0_1 : List Int) (a1 : Int) : Option (Int) := some (if logicB l0_0 l0_1 = true then (if [a1].all (inR l0_0.length) = true then (notI l0_1 a1) else (-1)) else (-1))
set_option maxHeartbeats 1000000 in
theorem impl_NotOf.calls (A0_0 : Option Addr) (c0_0 : Nat) (l0_0 : List (List Int)) (A0_1 : Option Addr) (c0_1 : Nat) (l0_1 : List Int) (a1 : Int) (r : Int) (w : World) (hr0_0 : Kd.C (Kd.slice 3 (Kd.int .i64)) w A0_0 l0_0.length l0_0) (hc0_0 : l0_0.length ≤ c0_0) (hr0_1 : Kd.C (Kd.int .i64) w A0_1 l0_1.length l0_1) (hc0_1 : l0_1.length ≤ c0_1) (h : impl_NotOf.f l0_0 l0_1 a1 = some r) :
    Calls Try.prog 25 #[.agg #[.slice A0_0 l0_0.length c0_0,.slice A0_1 l0_1.length c0_1],.int .i64 a1] w fun e w'=>e= .returned (.int .i64 r)∧Below w.heap.size w w':=by
  obtain⟨k,hF⟩:=told_facts l0_0
  have hu30:=Try.underlying26
  have hu70:=Try.underlying74
  have HF:=Aside0.mk hF
  have HR0:=Aside0.mk hr0_0
  have HC0:=Aside0.mk hc0_0
  have HR1:=Aside0.mk hr0_1
  have HC1:=Aside0.mk hc0_1
  simp only [impl_NotOf.f,Option.some.injEq] at h
  clear hr0_0 hc0_0 hr0_1 hc0_1 hF
  cases hL:logicB l0_0 l0_1 with
  | false =>
    rw [hL] at h
    have hr_:(-1)=r:=by simpa using h
    subst hr_
    have HLB:=Aside0.mk hL
    clear h hL
    go_enter Try.func25,Try.ntmps25
    go_wp2_with (first|((with_reducible refine gate_dst (N:=2) rfl ?_);refine box_event ?hg (N:=2) ?hd (cs:= #[.slice A0_0 l0_0.length c0_0,.slice A0_1 l0_1.length c0_1]) (t:=26) ?hr ?_;(case hd=>rfl);(case hg=>rfl);(case hr=>first|(go_simp;done)|(go_simp;rfl));intro gb hg_ w1 hbox hb;have HB:=Aside0.mk hb;have hx0:w1.cell? ⟨gb,0,none⟩=some (.slice A0_0 l0_0.length c0_0):=(blk_cell hbox 0).trans rfl;have hx1:w1.cell? ⟨gb,1,none⟩=some (.slice A0_1 l0_1.length c0_1):=(blk_cell hbox 1).trans rfl;have HX:=Aside0.mk hbox;clear hbox hb hg_)|(go_at_call 70;(with_reducible refine(told_n k _ _ l0_0 _ _ l0_1 _ ?s1 ?s2 ?s3 ?s4 HF.out HLB.out).mono ?_);(case s1=>exact Kd.C_below HR0.out HB.out);(case s2=>exact HC0.out);(case s3=>exact Kd.C_below HR1.out HB.out);(case s4=>exact HC1.out);rintro e w2 ⟨rfl,hb⟩;have HB2:=Aside0.mk (below_step HB.out hb);clear hb hx0 hx1 HX HB)|(go_at_call 87;(with_reducible refine(knows_nil _ _ _ _).mono ?_);rintro e w3 ⟨rfl,hb⟩;have HB3:=Aside0.mk (below_step zq233 hb);clear hb))
    go_ret
    exact⟨rfl,HB3.out⟩
  | true =>
    have HLB:=Aside0.mk hL
    have HLg:=Aside0.mk (logicB_iff.1 hL)
    cases hin: [a1].all (inR l0_0.length) with
    | false =>
      rw [hL,hin] at h
      have hr_:(-1)=r:=by simpa using h
      subst hr_
      have HIN:=Aside0.mk hin
      clear h hL hin
      go_enter Try.func25,Try.ntmps25
      go_wp2_with (first|((with_reducible refine gate_dst (N:=2) rfl ?_);refine box_event ?hg (N:=2) ?hd (cs:= #[.slice A0_0 l0_0.length c0_0,.slice A0_1 l0_1.length c0_1]) (t:=26) ?hr ?_;(case hd=>rfl);(case hg=>rfl);(case hr=>first|(go_simp;done)|(go_simp;rfl));intro gb hg_ w1 hbox hb;have HB:=Aside0.mk hb;have hx0:w1.cell? ⟨gb,0,none⟩=some (.slice A0_0 l0_0.length c0_0):=(blk_cell hbox 0).trans rfl;have hx1:w1.cell? ⟨gb,1,none⟩=some (.slice A0_1 l0_1.length c0_1):=(blk_cell hbox 1).trans rfl;have HX:=Aside0.mk hbox;clear hbox hb hg_)|(go_at_call 70;(with_reducible refine(told_y k _ _ l0_0 _ _ l0_1 _ ?s1 ?s2 ?s3 ?s4 HF.out HLB.out).mono ?_);(case s1=>exact Kd.C_below HR0.out HB.out);(case s2=>exact HC0.out);(case s3=>exact Kd.C_below HR1.out HB.out);(case s4=>exact HC1.out);rintro e w2 ⟨g,v,rfl,hv,hge,hb⟩;have HB2:=Aside0.mk (below_step HB.out hb);have HV:=Aside0.mk hv;clear hv hge hb hx0 hx1 HX HB)|(go_at_call 87;(with_reducible refine(knows_calls g l0_0 l0_1 v _ HLg.out ?s1 _ _ [a1] 1 rfl ?s2 (by omega) false HIN.out).mono ?_);(case s1=>exact View.alloc HV.out _);(case s2=>exact lit_C _ _ [a1] (by simp));rintro e w3 ⟨rfl,hb⟩;have HB3:=Aside0.mk (below_step (below_alloc HB2.out _) hb);have HV3:=Aside0.mk (View.below (View.alloc HV.out _) hb);clear hb))
      go_ret
      exact⟨rfl,HB3.out⟩
    | true =>
      rw [hL,hin] at h
      have hr_:(notI l0_1 a1)=r:=by simpa using h
      subst hr_
      have HIN:=Aside0.mk hin
      have hin2:=hin
      simp only [List.all_cons,List.all_nil,Bool.and_true,Bool.and_eq_true,inR_iff] at hin2
      have Ia1:=Aside0.mk (hin2)
      clear h hL hin hin2
      go_enter Try.func25,Try.ntmps25
      go_wp2_with (first|((with_reducible refine gate_dst (N:=2) rfl ?_);refine box_event ?hg (N:=2) ?hd (cs:= #[.slice A0_0 l0_0.length c0_0,.slice A0_1 l0_1.length c0_1]) (t:=26) ?hr ?_;(case hd=>rfl);(case hg=>rfl);(case hr=>first|(go_simp;done)|(go_simp;rfl));intro gb hg_ w1 hbox hb;have HB:=Aside0.mk hb;have hx0:w1.cell? ⟨gb,0,none⟩=some (.slice A0_0 l0_0.length c0_0):=(blk_cell hbox 0).trans rfl;have hx1:w1.cell? ⟨gb,1,none⟩=some (.slice A0_1 l0_1.length c0_1):=(blk_cell hbox 1).trans rfl;have HX:=Aside0.mk hbox;clear hbox hb hg_)|(go_at_call 70;(with_reducible refine(told_y k _ _ l0_0 _ _ l0_1 _ ?s1 ?s2 ?s3 ?s4 HF.out HLB.out).mono ?_);(case s1=>exact Kd.C_below HR0.out HB.out);(case s2=>exact HC0.out);(case s3=>exact Kd.C_below HR1.out HB.out);(case s4=>exact HC1.out);rintro e w2 ⟨g,v,rfl,hv,hge,hb⟩;have HB2:=Aside0.mk (below_step HB.out hb);have HV:=Aside0.mk hv;clear hv hge hb hx0 hx1 HX HB)|(go_at_call 87;(with_reducible refine(knows_calls g l0_0 l0_1 v _ HLg.out ?s1 _ _ [a1] 1 rfl ?s2 (by omega) true HIN.out).mono ?_);(case s1=>exact View.alloc HV.out _);(case s2=>exact lit_C _ _ [a1] (by simp));rintro e w3 ⟨rfl,hb⟩;have HB3:=Aside0.mk (below_step (below_alloc HB2.out _) hb);have HV3:=Aside0.mk (View.below (View.alloc HV.out _) hb);clear hb;have b0_:=eq_true Ia1.out.1;have c0_:=eq_true Ia1.out.2;have hf3_:=HV3.out.f3;have n2_:=HV3.out.n a1 Ia1.out))
      go_ret
      exact⟨rfl,HB3.out⟩
theorem ofInt_nat (a : Nat) (ha : a < 18446744073709551616) : (BitVec.ofInt 64 (a : Int)).toNat = a := by
  rw [BitVec.ofInt_natCast, BitVec.toNat_ofNat]; exact Nat.mod_eq_of_lt (by omega)
theorem band_nat (a b : Nat) (ha : a < 4611686018427387904) (hb : b < 4611686018427387904) : Go.bits .and .i64 (a : Int) (b : Int) = ((a &&& b : Nat) : Int) := by
  have hx:a &&& b<2 ^ 62:=Nat.and_lt_two_pow _ (by omega)
  show IntKind.i64.wrap ((BitVec.ofInt 64 (a:Int) &&& BitVec.ofInt 64 (b:Int)).toNat:Int)=_
  rw [BitVec.toNat_and,ofInt_nat a (by omega),ofInt_nat b (by omega),i64_w]
  unfold wrap64;omega
theorem bor_nat (a b : Nat) (ha : a < 4611686018427387904) (hb : b < 4611686018427387904) : Go.bits .or .i64 (a : Int) (b : Int) = ((a ||| b : Nat) : Int) := by
  have hx:a|||b<2 ^ 62:=Nat.or_lt_two_pow (by omega) (by omega)
  show IntKind.i64.wrap ((BitVec.ofInt 64 (a:Int)|||BitVec.ofInt 64 (b:Int)).toNat:Int)=_
  rw [BitVec.toNat_or,ofInt_nat a (by omega),ofInt_nat b (by omega),i64_w]
  unfold wrap64;omega
theorem two_pow_le {i : Nat} (h : i ≤ 40) : (2 : Nat) ^ i ≤ 1099511627776 := Nat.pow_le_pow_right (by omega) h
theorem cast_pow (i : Nat) : (2 : Int) ^ i = ((2 ^ i : Nat) : Int) := by rw [Int.natCast_pow]; rfl
theorem shl_nat {i : Nat} (h : i ≤ 40) : shl .i64 1 (i : Int) = ((2 ^ i : Nat) : Int) := by
  unfold shl
  have h2 := two_pow_le h
  rw [Int.toNat_natCast, Nat.min_eq_left (by show i ≤ 64; omega), Int.one_mul, cast_pow, i64_w]
  generalize 2 ^ i = x at h2 ⊢
  unfold wrap64; omega
theorem wshl_nat {i : Nat} (h : i ≤ 40) : IntKind.i64.wrap (2 ^ i) = ((2 ^ i : Nat) : Int) := by
  have := shl_nat h
  unfold shl at this
  rwa [Int.toNat_natCast, Nat.min_eq_left (by show i ≤ 64; omega), Int.one_mul] at this
theorem shr_nat (s : Nat) {i : Nat} (h : i ≤ 64) : shr .i64 (s : Int) (i : Int) = ((s / 2 ^ i : Nat) : Int) := by
  unfold shr
  rw [Int.toNat_natCast, Nat.min_eq_left (by show i ≤ 64; omega), cast_pow]
  rfl
theorem testBit_div (s i : Nat) : s.testBit i = decide (s / 2 ^ i % 2 = 1) := Nat.testBit_eq_decide_div_mod_eq
theorem smod_nat (s : Nat) {i : Nat} (h : i ≤ 64) : Int.tmod (shr .i64 (s : Int) (i : Int)) 2 = if s.testBit i = true then 1 else 0 := by
  rw [shr_nat s h,testBit_div]
  have h1:Int.tmod ((s / 2 ^ i:Nat):Int) ((2:Nat):Int)=((s / 2 ^ i % 2:Nat):Int):=by first|exact(Int.ofNat_tmod _ 2).symm|rfl
  rw [show ((2:Nat):Int)=2 from rfl] at h1
  rw [h1]
  by_cases e:s / 2 ^ i % 2=1
  · rw [e];simp
  · have : s / 2 ^ i % 2 = 0 := by omega
    rw [this];simp
theorem setB_bit (n : Nat) (p : Nat → Bool) (i : Nat) : (setB n p).testBit i = (decide (i < n) && p i) := by
  induction n with
  |zero=>simp [setB]
  | succ n ih =>
    simp only [setB,Nat.testBit_or,ih]
    by_cases e:i=n
    · subst e
      cases h:p i <;> simp [h,Nat.testBit_two_pow]
    · have : (if p n = true then 2 ^ n else 0).testBit i = false := by
        split
        · rw [Nat.testBit_two_pow];simp;omega
        · simp
      rw [this,Bool.or_false]
      congr 1
      rw [Bool.eq_iff_iff];simp;omega
theorem setB_lt (n : Nat) (p : Nat → Bool) : setB n p < 2 ^ n := by
  refine Nat.lt_pow_two_of_testBit _ fun i hi => ?_
  rw [setB_bit]; simp; omega
theorem setB_small {n : Nat} (h : n ≤ 40) (p : Nat → Bool) : setB n p < 1099511627776 := by have := setB_lt n p; have := two_pow_le h; omega
theorem setB_congr {n : Nat} {p q : Nat → Bool} (h : ∀ i, i < n → p i = q i) : setB n p = setB n q := by
  refine Nat.eq_of_testBit_eq fun i => ?_
  rw [setB_bit, setB_bit]
  by_cases hi : i < n
  · rw [h i hi]
  · simp [hi]
theorem setB_or (n : Nat) (p q : Nat → Bool) : setB n p ||| setB n q = setB n fun i => p i || q i := by
  refine Nat.eq_of_testBit_eq fun i => ?_
  rw [Nat.testBit_or, setB_bit, setB_bit, setB_bit]
  cases decide (i < n) <;> simp
theorem setB_and (n : Nat) (p q : Nat → Bool) : setB n p &&& setB n q = setB n fun i => p i && q i := by
  refine Nat.eq_of_testBit_eq fun i => ?_
  rw [Nat.testBit_and, setB_bit, setB_bit, setB_bit]
  cases decide (i < n) <;> simp
theorem setB_one {n k : Nat} (h : k < n) : 2 ^ k = setB n fun i => i == k := by
  refine Nat.eq_of_testBit_eq fun i => ?_
  rw [setB_bit, Nat.testBit_two_pow]
  rw [Bool.eq_iff_iff]; simp; omega
theorem setB_all (n : Nat) : 2 ^ n - 1 = setB n fun _ => true := by
  refine Nat.eq_of_testBit_eq fun i => ?_
  rw [setB_bit, Nat.testBit_two_pow_sub_one]; simp
theorem setB_none (n : Nat) : setB n (fun _ => false) = 0 := by
  refine Nat.eq_of_testBit_eq fun i => ?_
  rw [setB_bit]; simp
end Go.Proofs.Ytcbjpdaogicibaa.Print
end
section
namespace Go.Proofs.Ytcbjpdaogicibaa.Print
open Go.RowKit Go.Proofs.YtcbjpdaogicibaaW.PrintWords Go.Proofs.YtcbjpdaogicibaaW.PrintLast Go.Proofs.YtcbjpdaogicibaaW.PrintMore
def impl_has.f (a0 : Int) (a1 : Int) : Option (Bool) := if 0 ≤ a1 then (some ((Go.bits .and .i64 (shr .i64 a0 a1) 1) == 1)) else (none)
set_option maxHeartbeats 8000000 in
set_option maxRecDepth 100000 in
theorem impl_has.calls (a0 : Int) (a1 : Int) (r : Bool) (w : World) (h : impl_has.f a0 a1 = some r) :
  Calls Try.prog 88 #[.int .i64 a0, .int .i64 a1] w fun e w' => e = .returned (.bool r) ∧ Drawn0 w w' := by
 have H : (if 0 ≤ a1 then (some ((Go.bits .and .i64 (shr .i64 a0 a1) 1) == 1)) else (none)) = some r := h
 clear h
 by_cases c3 : 0 ≤ a1
 ·rw [if_pos c3] at H
  have c3b0 := eq_true c3
  have c3b1 : decide (0 ≤ a1) = true := decide_eq_true c3
  clear c3
  obtain ⟨ji4, hji4⟩ : ∃ j_ : Int, (shr .i64 a0 a1) = j_ := ⟨_, rfl⟩
  replace H : (some ((Go.bits .and .i64 (ji4) 1) == 1)) = some r := by first | (rw [hji4] at H; exact H) | (simp only [hji4] at H ⊢; exact H)
  have hji4_ : (a0 / 2 ^ min a1.toNat 64) = ji4 := hji4
  have hji4z : a1 ≤ 64 → (a0 / 2 ^ a1.toNat) = ji4 := shr_small hji4
  obtain rfl := Option.some.inj H
  go_enter Try.func88, Try.ntmps88
  go_wp2
  go_ret
  exact ⟨by first | rfl | (simp; done) | (simp only [← hji4] <;> (first | rfl | simp)) | (simp [*]; done), by repeat (first | exact Drawn0.refl _ | apply Drawn0.step)⟩
 ·rw [if_neg c3] at H
  exact absurd H (by simp)
end Go.Proofs.Ytcbjpdaogicibaa.Print
end
section
namespace Go.Proofs.Ytcbjpdaogicibaa.Print
open Go.RowKit Go.Proofs.YtcbjpdaogicibaaW.PrintWords Go.Proofs.YtcbjpdaogicibaaW.PrintLast Go.Proofs.YtcbjpdaogicibaaW.PrintMore
open Oml
theorem has_nat (s : Nat) (hs : s < 4611686018427387904) {i : Nat} (h : i ≤ 64) : impl_has.f (s : Int) (i : Int) = some (s.testBit i) := by
  unfold impl_has.f
  rw [if_pos (by omega),shr_nat s h,show (1:Int)=((1:Nat):Int) from rfl,band_nat _ _ (Nat.lt_of_le_of_lt (Nat.div_le_self _ _) hs) (by omega),Nat.and_one_is_mod,testBit_div]
  have h2:s / 2 ^ i % 2=0∨s / 2 ^ i % 2=1:=by omega
  rcases h2 with h2|h2 <;> rw [h2] <;> rfl
theorem has_in (s : Nat) (hs : s < 4611686018427387904) {i : Int} (h0 : 0 ≤ i) (h : i ≤ 64) : impl_has.f (s : Int) i = some (s.testBit i.toNat) := by
  obtain ⟨x, rfl⟩ : ∃ x : Nat, i = x := ⟨i.toNat, by omega⟩
  rw [Int.toNat_natCast]
  exact has_nat s hs (by omega)
theorem alg_with0.reads (g : Nat) (U : List (List Int)) (N : List Int) (v : Adr) (a : Int) (b : Int) (w : World) (L : Logic U N) (hV : View w g U N v) (ia : In U a) (ib : In U b) :
    Calls Try.prog 150 #[.pointer (some ⟨g,0,none⟩),.int .i64 a,.int .i64 b] w fun e w'=>e= .returned (.bool ((orI U (andI U a b) (andI U a (notI N b)))==a))∧Drawn0 w w':=by
  have hu70:=Try.underlying74
  have HV:=Aside0.mk hV
  have HLg:=Aside0.mk L
  have Ia:=Aside0.mk ia
  have Ib:=Aside0.mk ib
  clear hV L ia ib
  have b0_:=eq_true Ia.out.1;have c0_:=eq_true Ia.out.2
  have b1_:=eq_true Ib.out.1;have c1_:=eq_true Ib.out.2
  have hf1_:=HV.out.f1
  have r3_:=HV.out.m a Ia.out
  have s4_:=HV.out.m2 a b Ia.out Ib.out
  have hf3_:=HV.out.f3
  have n6_:=HV.out.n b Ib.out
  have IN1_:=Aside0.mk (HLg.out.in_not Ib.out)
  have b7_:=eq_true IN1_.out.1;have c7_:=eq_true IN1_.out.2
  have s8_:=HV.out.m2 a (notI N b) Ia.out IN1_.out
  have IN2_:=Aside0.mk (HLg.out.in_and Ia.out Ib.out)
  have b9_:=eq_true IN2_.out.1;have c9_:=eq_true IN2_.out.2
  have IN3_:=Aside0.mk (HLg.out.in_and Ia.out IN1_.out)
  have b10_:=eq_true IN3_.out.1;have c10_:=eq_true IN3_.out.2
  have hf2_:=HV.out.f2
  have r12_:=HV.out.j (andI U a b) IN2_.out
  have s13_:=HV.out.j2 (andI U a b) (andI U a (notI N b)) IN2_.out IN3_.out
  go_enter Try.func150,Try.ntmps150
  go_wp2_with fail
  go_quiet (fail)
  go_wp2
  go_ret
  exact⟨rfl,⟨⟨_,rfl⟩⟩⟩
theorem alg_with.reads (g : Nat) (U : List (List Int)) (N : List Int) (v : Adr) (a b : Int) (w : World) (L : Logic U N) (hV : View w g U N v) (ia : In U a) (ib : In U b) :
    Calls Try.prog 150 #[.pointer (some ⟨g,0,none⟩),.int .i64 a,.int .i64 b] w fun e w'=>e= .returned (.bool (withB U N a b))∧Drawn0 w w':=alg_with0.reads g U N v a b w L hV ia ib
theorem alg_both.reads (g : Nat) (U : List (List Int)) (N : List Int) (v : Adr) (a b : Int) (w : World) (L : Logic U N) (hV : View w g U N v) (ia : In U a) (ib : In U b) :
    Calls Try.prog 138 #[.pointer (some ⟨g,0,none⟩),.int .i64 a,.int .i64 b] w fun e w'=>e= .returned (.bool (bothB U N a b))∧Drawn0 w w':=by
  have HV:=Aside0.mk hV
  have HLg:=Aside0.mk L
  have Ia:=Aside0.mk ia
  have Ib:=Aside0.mk ib
  clear hV L ia ib
  unfold bothB
  obtain⟨p,hp⟩: ∃p,withB U N a b=p:=⟨_,rfl⟩
  obtain⟨q,hq⟩: ∃q,withB U N b a=q:=⟨_,rfl⟩
  have HP:=Aside0.mk hp
  have HQ:=Aside0.mk hq
  rw [hp,hq]
  clear hp hq
  cases p with
  | false =>
    go_enter Try.func138,Try.ntmps138
    go_wp2_with (go_at_call 150;(with_reducible refine(alg_with.reads g U N v a b _ HLg.out ?s1 Ia.out Ib.out).mono ?_);(case s1=>repeat(first|exact HV.out|apply View.drewN));rintro e w' ⟨he,⟨⟨nd,rfl⟩⟩⟩;rw [HP.out] at he;subst he)
    go_ret
    exact⟨by first|rfl|simp,⟨⟨_,rfl⟩⟩⟩
  | true =>
    go_enter Try.func138,Try.ntmps138
    go_wp2_with (first|(go_at_call 150;(with_reducible refine(alg_with.reads g U N v a b _ HLg.out ?s1 Ia.out Ib.out).mono ?_);(case s1=>repeat(first|exact HV.out|apply View.drewN));rintro e w' ⟨he,⟨⟨nd,rfl⟩⟩⟩;rw [HP.out] at he;subst he)|(go_at_call 150;(with_reducible refine(alg_with.reads g U N v b a _ HLg.out ?s1 Ib.out Ia.out).mono ?_);(case s1=>repeat(first|exact HV.out|apply View.drewN));rintro e w' ⟨he,⟨⟨nd2,rfl⟩⟩⟩;rw [HQ.out] at he;subst he))
    go_ret
    exact⟨by first|rfl|simp,⟨⟨_,rfl⟩⟩⟩
theorem goesV_ {P : Program} {ops : Array Oper} {Q : Exit → Act → World → Prop} {rest : List Oper} {oi : Oper} {a : Act} {w : World} (N : Option Tmp) (hd : oi.dst = N) (hg : oi.guard = none) {f : FuncId} {fn : Func} {x : Operand} {xo : Array Operand} {ts : Array TypeId} {cs : Array Value}
    (hf : P.funcs[f]? = some fn) (hname : (fn.name == "runtime.NumGoroutine") = false) (hb : fn.body.isSome = true) (args : Array Value)
    (hop : oi.op = .call { callee := .value x, args := xo, argTypes := ts }) (hx : a.eval x = .func (.func f) #[] cs) (hargs : xo.map a.eval = args)
    (h : Calls P f (args ++ cs) w fun e w' => ∃ v, e = .returned v ∧ wpList P ops Q rest (a.put N v) w') : wpList P ops Q (oi :: rest) a w := by
  refine wpList_plain hg fun K hK => ?_
  have he := enters_ hf hname hb (args ++ cs) w
  have hrun : (execOp a.eval oi).run P w = .ok (.enter f (args ++ cs)) w := by
    unfold execOp
    simp [hop, resolve, Deferred.ofValue, invoke, hx, hargs, he]
  unfold Oper.wp
  rw [hrun, Oper.upon_enter]
  refine h.mono fun e w'' hh => ?_
  obtain ⟨v, rfl, hk⟩ := hh
  subst hd
  exact hK _ _ hk
set_option maxHeartbeats 1000000 in
set_option maxRecDepth 100000 in
theorem every_calls (g : Nat) (U : List (List Int)) (N : List Int) (v : Adr) (w : World) (hs : U.length ≤ 12) (fv : Nat) (fn : Func) (cs : Array Value) (hf : Try.prog.funcs[fv]? = some fn) (hname : (fn.name == "runtime.NumGoroutine") = false) (hb : fn.body.isSome = true)
    (p : Nat → Nat → Bool) (J : Nat → World → Prop) (hV : ∀ i w', J i w' → View w' g U N v) (hD : ∀ i w' n, J i w' → J i (w'.drewN n)) (h0 : J 0 w)
    (step : ∀ a b : Nat, a < U.length → b < U.length → ∀ w', J (a * U.length + b) w' → Calls Try.prog fv (#[.int .i64 a, .int .i64 b] ++ cs) w' fun e w'' => e = .returned (.bool (p a b)) ∧ J (a * U.length + b + 1) w'') :
    Calls Try.prog 71 #[.pointer (some ⟨g, 0, none⟩), .func (.func fv) #[] cs] w fun e w' =>
      e = .returned (.bool (allN U.length fun a => allN U.length fun b => p a b)) ∧ ∃ i, J i w' ∧ ((allN U.length fun a => allN U.length fun b => p a b) = true → i = U.length * U.length) := by
  obtain ⟨r, hr⟩ : ∃ r, r = allN U.length fun a => allN U.length fun b => p a b := ⟨_, rfl⟩
  rw [← hr]
  have hu70 := Try.underlying74
  have HF := Aside0.mk hf
  have HNM := Aside0.mk hname
  have HBD := Aside0.mk hb
  have HV := Aside0.mk hV
  have HD := Aside0.mk hD
  have HJ0 := Aside0.mk h0
  have HST := Aside0.mk step
  have HR := Aside0.mk hr
  have hf0 := (hV 0 w h0).f0
  clear hf hname hb hV hD h0 step hr
  go_enter Try.func71, Try.ntmps71
  go_wp2_with fail
  go_loopg [12] (U.length + 1) (fun kq v12 W => ∃ i s : Nat, v12 = .int .i64 i ∧ Aside0 (i + kq = U.length + 1) ∧ Aside0 (i ≤ U.length) ∧ Aside0 (s = i * U.length) ∧ Aside0 (∀ a, a < i → ∀ b, b < U.length → p a b = true) ∧ Aside0 (J s W))
  case atStart => exact ⟨0, 0, rfl, ⟨by omega⟩, ⟨by omega⟩, ⟨by simp⟩, ⟨fun j hj => absurd hj (by omega)⟩, ⟨by first | exact HJ0.out | exact HD.out _ _ _ HJ0.out⟩⟩
  case round =>
    clear hf0
    obtain ⟨i, s, rfl, HK, HK2, HSI, HS, HJ⟩ := hrel
    have hf0 := (HV.out _ _ HJ.out).f0
    cases gk with
    | zero => exact absurd HK.out (by have := HK2.out; omega)
    | succ kn =>
    by_cases hlt : i < U.length
    · have hlt' : decide (i < U.length) = true := decide_eq_true hlt
      have HLT := Aside0.mk hlt
      clear hlt
      go_wp2_with fail
      go_loopg [20] (U.length + 1) (fun kq v20 W => ∃ j : Nat, v20 = .int .i64 j ∧ Aside0 (j + kq = U.length + 1) ∧ Aside0 (j ≤ U.length) ∧ Aside0 (∀ b, b < j → p i b = true) ∧ Aside0 (J (s + j) W))
      case atStart => exact ⟨0, rfl, ⟨by omega⟩, ⟨by omega⟩, ⟨fun j hj => absurd hj (by omega)⟩, ⟨by first | exact HJ.out | exact HD.out _ _ _ HJ.out⟩⟩
      case round =>
        clear hf0
        obtain ⟨j, rfl, HKj, HKj2, HSj, HJj⟩ := hrel
        cases gk with
        | zero => exact absurd HKj.out (by have := HKj2.out; omega)
        | succ kj =>
        by_cases hlj : j < U.length
        · have hlj' : decide (j < U.length) = true := decide_eq_true hlj
          have HLJ := Aside0.mk hlj
          clear hlj
          cases hp : p i j with
          | true =>
            have HP := Aside0.mk hp
            clear hp
            go_wp2_with (refine goesV_ (some 26) rfl rfl HF.out HNM.out HBD.out #[.int .i64 i, .int .i64 j] rfl rfl zq273 ?_; refine (HST.out i j HLT.out HLJ.out _ ?sJ).mono ?_; (case sJ => exact zq325); rintro e w1 ⟨he, hj⟩; rw [HP.out] at he; subst he; refine ⟨_, rfl, ?_⟩; have HJ1 := Aside0.mk hj; clear hj)
            go_roundg kj
            case measure => omega
            case rel => exact ⟨j + 1, by first | go_num | (rw [wrap_small (by omega) (by have := HLJ.out; omega)]; go_num), ⟨by have := HKj.out; omega⟩, ⟨by have := HLJ.out; omega⟩, ⟨fun b hb => by
              rcases Nat.lt_or_ge b j with h | h
              · exact HSj.out b h
              · obtain rfl : b = j := by omega
                exact HP.out⟩, ⟨by have h1 := HJ1.out; rw [← HSI.out, Nat.add_assoc] at h1; first | exact h1 | exact HD.out _ _ _ h1⟩⟩
          | false =>
            have HP := Aside0.mk hp
            clear hp
            have hrf : r = false := by
              rw [HR.out]
              exact allN_false.2 ⟨i, HLT.out, allN_false.2 ⟨j, HLJ.out, HP.out⟩⟩
            subst hrf
            go_wp2_with (refine goesV_ (some 26) rfl rfl HF.out HNM.out HBD.out #[.int .i64 i, .int .i64 j] rfl rfl zq273 ?_; refine (HST.out i j HLT.out HLJ.out _ ?sJ).mono ?_; (case sJ => exact zq325); rintro e w1 ⟨he, hj⟩; rw [HP.out] at he; subst he; refine ⟨_, rfl, ?_⟩; have HJ1 := Aside0.mk hj; clear hj)
            go_ret
            exact ⟨rfl, _, by first | exact HJ1.out | exact HD.out _ _ _ HJ1.out, fun h => by cases h⟩
        · have hlj' : decide (j < U.length) = false := decide_eq_false hlj
          obtain rfl : j = U.length := by have := HKj2.out; omega
          clear hlj
          go_wp2_with fail
          go_roundg kn
          case measure => omega
          case rel => exact ⟨i + 1, s + U.length, by first | go_num | (rw [wrap_small (by omega) (by have := HLT.out; omega)]; go_num), ⟨by have := HK.out; omega⟩, ⟨by have := HLT.out; omega⟩, ⟨by rw [Nat.succ_mul, HSI.out]⟩, ⟨fun a ha => by
            rcases Nat.lt_or_ge a i with h | h
            · exact HS.out a h
            · obtain rfl : a = i := by omega
              exact HSj.out⟩, ⟨by first | exact HJj.out | exact HD.out _ _ _ HJj.out⟩⟩
    · have hlt' : decide (i < U.length) = false := decide_eq_false hlt
      obtain rfl : i = U.length := by have := HK2.out; omega
      have hrt : r = true := by
        rw [HR.out, allN_iff]
        intro a ha
        exact allN_iff.2 (HS.out a ha)
      subst hrt
      clear hlt
      go_wp2_with fail
      go_ret
      have hj := HJ.out
      rw [HSI.out] at hj
      exact ⟨rfl, by first | exact hj | exact HD.out _ _ _ hj⟩
theorem every_pure (g : Nat) (U : List (List Int)) (N : List Int) (v : Adr) (w : World) (hs : U.length ≤ 12) (hV : View w g U N v) (fv : Nat) (fn : Func) (cs : Array Value) (hf : Try.prog.funcs[fv]? = some fn) (hname : (fn.name == "runtime.NumGoroutine") = false) (hb : fn.body.isSome = true)
    (p : Nat → Nat → Bool) (step : ∀ a b : Nat, a < U.length → b < U.length → ∀ W, Below w.heap.size w W → Calls Try.prog fv (#[.int .i64 a, .int .i64 b] ++ cs) W fun e w'' => e = .returned (.bool (p a b)) ∧ Below W.heap.size W w'') :
    Calls Try.prog 71 #[.pointer (some ⟨g, 0, none⟩), .func (.func fv) #[] cs] w fun e w' => e = .returned (.bool (allN U.length fun a => allN U.length fun b => p a b)) ∧ Below w.heap.size w w' := by
  refine (every_calls g U N v w hs fv fn cs hf hname hb p (fun _ W => Below w.heap.size w W) (fun _ W h => hV.below h) (fun _ W n h => pw_below_drewN h n) (Below.refl _ _) (fun a b ha hb' W hW => ?_)).mono ?_
  · refine (step a b ha hb' W hW).mono ?_
    rintro e w2 ⟨rfl, h2⟩
    exact ⟨rfl, below_step hW h2⟩
  · rintro e w2 ⟨rfl, i, h2, _⟩
    exact ⟨rfl, h2⟩
def filI (n : Nat) (p : Nat → Bool) : List Int := ((List.range n).filter p).map fun (a : Nat) => (a : Int)
theorem filI_zero (p : Nat → Bool) : filI 0 p = [] := rfl
theorem filI_succ (n : Nat) (p : Nat → Bool) : filI (n + 1) p = if p n = true then filI n p ++ [(n : Int)] else filI n p := by
  unfold filI
  rw [List.range_succ, List.filter_append, List.map_append]
  cases h : p n <;> simp [h]
theorem filI_length (n : Nat) (p : Nat → Bool) : (filI n p).length ≤ n := by
  unfold filI
  rw [List.length_map]
  exact Nat.le_trans (List.length_filter_le _ _) (by simp)
end Go.Proofs.Ytcbjpdaogicibaa.Print
end
section
namespace Go.Proofs.Ytcbjpdaogicibaa.Print
open Go.RowKit Go.Proofs.YtcbjpdaogicibaaW.PrintWords Go.Proofs.YtcbjpdaogicibaaW.PrintLast Go.Proofs.YtcbjpdaogicibaaW.PrintMore
def impl_common.l0 : Nat → Int → Int → List Int → Int → Int → Option (Int)
 | 0, _, _, _, _, _ => none
 | k + 1, x1, x5, x12, x13, x14 => if x14 < x13 then (if 0 ≤ x14 then (if x14 < (x12.length : Int) then ((impl_has.f x1 x14).bind fun t531 => (if t531 = true then (impl_common.l0 k x1 (Go.bits .and .i64 x5 (rd x12 x14)) x12 x13 (wrap64 (x14 + 1))) else (impl_common.l0 k x1 x5 x12 x13 (wrap64 (x14 + 1))))) else (none)) else (none)) else (some x5)
def impl_common.f (k : Nat) (l0 : List Int) (a1 : Int) : Option (Int) := impl_common.l0 k a1 (wrap64 ((shl .i64 1 (l0.length : Int)) - 1)) l0 (l0.length : Int) 0
set_option maxHeartbeats 8000000 in
set_option maxRecDepth 100000 in
theorem impl_common.calls (k : Nat) (A0 : Option Addr) (c0 : Nat) (l0 : List Int) (a1 : Int) (r : Int) (w : World) (hr0 : Kd.C (Kd.int .i64) w A0 l0.length l0) (hc0 : l0.length ≤ c0) (h : impl_common.f k l0 a1 = some r) :
  Calls Try.prog 84 #[.slice A0 l0.length c0, .int .i64 a1] w fun e w' => e = .returned (.int .i64 r) ∧ Drawn0 w w' := by
 have b4:=zqm hr0;have b9:=zqm hc0;clear hr0 hc0;have H:(impl_common.l0 k a1 (wrap64 ((shl .i64 1 (l0.length:Int)) - 1)) l0 (l0.length:Int) 0)=some r:=h;clear h;obtain⟨a3,a6⟩: ∃j_:Int,(shl .i64 1 (l0.length:Int))=j_:=⟨_,rfl⟩;(replace H:(impl_common.l0 k a1 (wrap64 ((a3) - 1)) l0 (l0.length:Int) 0)=some r:=by first|(rw [a6] at H;exact H)|(simp only [a6] at H ⊢;exact H));have a7:(IntKind.i64.wrap (1*2 ^ min (l0.length:Int).toNat 64))=a3:=a6;have hji3z:(l0.length:Int)≤64→(IntKind.i64.wrap (1*2 ^ (l0.length:Int).toNat))=a3:=shl_small a6;have hji3p:(IntKind.i64.wrap (1*2 ^ min l0.length 64))=a3:=a7;have hji3q:(l0.length:Int)≤64→(IntKind.i64.wrap (1*2 ^ l0.length))=a3:=hji3z;(have hji3r:(IntKind.i64.wrap (2 ^ min l0.length 64))=a3:=by have h_:=hji3p;rw [Int.one_mul] at h_;exact h_);(have hji3s:(l0.length:Int)≤64→(IntKind.i64.wrap (2 ^ l0.length))=a3:=fun hle_=>by have h_:=hji3q hle_;rw [Int.one_mul] at h_;exact h_);(have hji3u:(IntKind.i64.wrap (2 ^ min (l0.length:Int).toNat 64))=a3:=by have h_:=a7;rw [Int.one_mul] at h_;exact h_);(have hji3v:(l0.length:Int)≤64→(IntKind.i64.wrap (2 ^ (l0.length:Int).toNat))=a3:=fun hle_=>by have h_:=hji3z hle_;rw [Int.one_mul] at h_;exact h_);have hji3y:(wrap64 (1*2 ^ min (l0.length:Int).toNat 64))=a3:=(i64_w _).symm.trans a7;have hji3x:(l0.length:Int)≤64→(wrap64 (1*2 ^ (l0.length:Int).toNat))=a3:=fun h_=>(i64_w _).symm.trans (hji3z h_);have H':=zqm H;clear H
 go_enter Try.func84,Try.ntmps84
 go_wp2
 go_loopg [5,14] k (fun kq v5 b6 w'=> ∃(a2:Int) (a0:Int),v5= .int .i64 a2∧b6= .int .i64 a0∧Aside0 (impl_common.l0 kq a1 a2 l0 (l0.length:Int) a0=some r)∧Aside0 (kq≤k)∧Drawn0 w w')
 case atStart=>exact⟨(wrap64 ((a3) - 1)),(0),zq328,(by first|rfl|(simp;done)|(simp [*];done)),H',⟨Nat.le_refl _⟩,zq17⟩
 case round=>
  clear H';obtain⟨a2,a0,rfl,rfl,HA,a9,⟨m1,rfl⟩⟩:=hrel
  cases gk with
  |zero=>exact absurd HA.out (by simp [impl_common.l0])
  |succ k1=>
   have H:=HA.out;clear HA;simp only [impl_common.l0] at H
   by_cases c4:a0<(l0.length:Int)
   ·rw [if_pos c4] at H;have b5:decide (a0<(l0.length:Int))=true:=decide_eq_true c4;clear c4
    by_cases c5:0≤a0
    ·rw [if_pos c5] at H;have b7:decide (0≤a0)=true:=decide_eq_true c5;clear c5
     by_cases c6:a0<(l0.length:Int)
     ·rw [if_pos c6] at H;have b8:decide (a0<(l0.length:Int))=true:=decide_eq_true c6;clear c6;replace H:=Option.bind_eq_some_iff.mp H;obtain⟨b1,b3,H⟩:=H;replace H:(if b1=true then(impl_common.l0 k1 a1 (Go.bits .and .i64 a2 (rd l0 a0)) l0 (l0.length:Int) (wrap64 (a0+1))) else(impl_common.l0 k1 a1 a2 l0 (l0.length:Int) (wrap64 (a0+1))))=some r:=H;have A7:=zqm b3;clear b3
      by_cases c8:b1=true
      ·subst c8;(have H1:(impl_common.l0 k1 a1 (Go.bits .and .i64 a2 (rd l0 a0)) l0 (l0.length:Int) (wrap64 (a0+1)))=some r:=by rw [if_pos rfl] at H;exact H);clear H;have H:=H1;clear H1;have H':=zqm H;clear H;have a4:0≤(a0:Int):=zqo;have a5:a0<(l0.length:Int):=zqo;obtain⟨b2,a8,b0⟩:=Kd.at_int b4.out a0 a4 a5
       cases a8
       replace a4:=eq_true a4;replace a5:=eq_true a5
       go_wp2_with (first|((with_reducible refine gate_callee (f:=88) rfl ?_);refine goesL_ (some 21) rfl rfl Try.func88 zqk rfl #[.int .i64 a1,.int .i64 a0] rfl zq1 ?_;(with_reducible refine(impl_has.calls a1 a0 true _ A7.out).mono ?_);rintro e w' ⟨rfl,⟨nd,rfl⟩⟩;refine⟨_,rfl,?_⟩))
       go_roundg k1
       (case measure=>have:=a9.out;omega);case rel=>exact⟨(Go.bits .and .i64 a2 (rd l0 a0)),(wrap64 (a0+1)),(by first|rfl|(simp;done)|(simp [*];done)),(by first|rfl|(simp;done)|(simp [*];done)),H',⟨by have:=a9.out;omega⟩,zq17⟩
      ·replace c8:=Bool.eq_false_iff.mpr c8;subst c8;(have H1:(impl_common.l0 k1 a1 a2 l0 (l0.length:Int) (wrap64 (a0+1)))=some r:=by rw [if_neg (show¬(false=true) by decide)] at H;exact H);clear H;have H:=H1;clear H1;have H':=zqm H;clear H;have a4:0≤(a0:Int):=zqo;have a5:a0<(l0.length:Int):=zqo;obtain⟨b2,a8,b0⟩:=Kd.at_int b4.out a0 a4 a5
       cases a8
       replace a4:=eq_true a4;replace a5:=eq_true a5
       go_wp2_with (first|((with_reducible refine gate_callee (f:=88) rfl ?_);refine goesL_ (some 21) rfl rfl Try.func88 zqk rfl #[.int .i64 a1,.int .i64 a0] rfl zq1 ?_;(with_reducible refine(impl_has.calls a1 a0 false _ A7.out).mono ?_);rintro e w' ⟨rfl,⟨nd,rfl⟩⟩;refine⟨_,rfl,?_⟩))
       go_roundg k1
       (case measure=>have:=a9.out;omega);case rel=>exact⟨(a2),(wrap64 (a0+1)),(by first|rfl|(simp;done)|(simp [*];done)),(by first|rfl|(simp;done)|(simp [*];done)),H',⟨by have:=a9.out;omega⟩,zq17⟩
     ·rw [if_neg c6] at H;exact absurd H (by simp)
    ·rw [if_neg c5] at H;exact absurd H (by simp)
   ·rw [if_neg c4] at H;have b5:decide (a0<(l0.length:Int))=false:=decide_eq_false c4;clear c4;obtain rfl:=Option.some.inj H
    go_wp2
    go_ret
    exact⟨zq328,zq17⟩
end Go.Proofs.Ytcbjpdaogicibaa.Print
end
section
namespace Go.Proofs.Ytcbjpdaogicibaa.Print
open Go.RowKit Go.Proofs.YtcbjpdaogicibaaW.PrintWords Go.Proofs.YtcbjpdaogicibaaW.PrintLast Go.Proofs.YtcbjpdaogicibaaW.PrintMore
open Oml
def agA (U : List (List Int)) (N : List Int) (a : Nat) : Nat := setB U.length fun b => bothB U N a b
def agF (U : List (List Int)) (N : List Int) : List Int := (List.range U.length).map fun (a : Nat) => ((agA U N a : Nat) : Int)
theorem agF_length (U : List (List Int)) (N : List Int) : (agF U N).length = U.length := by simp [agF]
theorem agL_at (U : List (List Int)) (N : List Int) (s a : Nat) (h : a < U.length) : at1 (agL U N s) a = ((agN U N s a : Nat) : Int) := by simp [agL, at1, h]
theorem agF_at (U : List (List Int)) (N : List Int) (a : Nat) (h : a < U.length) : at1 (agF U N) a = ((agA U N a : Nat) : Int) := by simp [agF, at1, h]
theorem agL_zero (U : List (List Int)) (N : List Int) : agL U N 0 = List.replicate U.length 0 := by
  refine List.ext_getElem (by simp [agL]) fun i h1 h2 => ?_
  simp [agL, agN, setB_none]
theorem pair_lt {n a b : Nat} (ha : a < n) (hb : b < n) : a * n + b < n * n := by
  have : (a + 1) * n ≤ n * n := Nat.mul_le_mul_right _ ha
  rw [Nat.succ_mul] at this; omega
theorem agL_all (U : List (List Int)) (N : List Int) : agL U N (U.length * U.length) = agF U N := by
  unfold agL agF
  refine List.map_congr_left fun a ha => ?_
  congr 1
  unfold agN agA
  refine setB_congr fun b hb => ?_
  rw [decide_eq_true (pair_lt (by simpa using ha) hb), Bool.true_and]
theorem pair_inj {n a b c d : Nat} (hb : b < n) (hd : d < n) (h : a * n + b = c * n + d) : a = c ∧ b = d := by
  have h1:(a*n+b) / n=a:=by rw [Nat.add_comm,Nat.mul_comm,Nat.add_mul_div_left _ _ (by omega),Nat.div_eq_of_lt hb];omega
  have h2:(c*n+d) / n=c:=by rw [Nat.add_comm,Nat.mul_comm,Nat.add_mul_div_left _ _ (by omega),Nat.div_eq_of_lt hd];omega
  have h3:a=c:=by rw [← h1,h,h2]
  subst h3
  exact⟨rfl,by omega⟩
theorem agN_step (U : List (List Int)) (N : List Int) {a b c : Nat} (hb : b < U.length) : agN U N (a * U.length + b + 1) c = if c = a ∧ bothB U N a b = true then agN U N (a * U.length + b) c ||| 2 ^ b else agN U N (a * U.length + b) c := by
  unfold agN
  split
  · rename_i h
    obtain⟨rfl,h⟩:=h
    rw [setB_one hb,setB_or]
    refine setB_congr fun d hd=>?_
    by_cases e:d=b
    · subst e;simp [h]
    · rw [show (d == b) = false by simpa using e, Bool.or_false]
      congr 1
      rw [decide_eq_decide];omega
  · rename_i h
    refine setB_congr fun d hd=>?_
    by_cases e:c*U.length+d=a*U.length+b
    · obtain ⟨rfl, rfl⟩ := pair_inj hd hb e
      have : bothB U N c d = false := by
        cases h2:bothB U N c d with
        |false=>rfl
        |true=>exact absurd ⟨rfl,h2⟩ h
      rw [this];simp
    · congr 1
      rw [decide_eq_decide];omega
theorem agL_step (U : List (List Int)) (N : List Int) {a b : Nat} (ha : a < U.length) (hb : b < U.length) :
    agL U N (a*U.length+b+1)=if bothB U N a b=true then(agL U N (a*U.length+b)).set a (((agN U N (a*U.length+b) a|||2 ^ b:Nat)):Int) else agL U N (a*U.length+b):=by
  cases hB:bothB U N a b with
  | false =>
    rw [if_neg (by simp)]
    refine List.ext_getElem (by simp [agL]) fun i h1 h2=>?_
    simp [agL,agN_step U N hb,hB]
  | true =>
    rw [if_pos rfl]
    refine List.ext_getElem (by simp [agL]) fun i h1 h2=>?_
    by_cases e:i=a
    · subst e;simp [agL,agN_step U N hb,hB]
    · simp [agL,agN_step U N hb,List.getElem_set,e,show¬(a=i) from fun h=>e h.symm]
def comS (U : List (List Int)) (N : List Int) (s : Nat) : Nat := setB U.length fun b => allN U.length fun a => !(s.testBit a) || bothB U N a b
def comN (U : List (List Int)) (N : List Int) (s i : Nat) : Nat := setB U.length fun b => allN i fun a => !(s.testBit a) || bothB U N a b
theorem allN_succ (n : Nat) (p : Nat → Bool) : allN (n + 1) p = (allN n p && p n) := by simp [allN, List.range_succ]
theorem comN_succ (U : List (List Int)) (N : List Int) (s i : Nat) : comN U N s (i + 1) = if s.testBit i = true then comN U N s i &&& agA U N i else comN U N s i := by
  unfold comN agA
  cases hb:s.testBit i with
  |true=>rw [if_pos rfl,setB_and];exact setB_congr fun b _=>by rw [allN_succ,hb];simp
  |false=>rw [if_neg (by simp)];exact setB_congr fun b _=>by rw [allN_succ,hb];simp
theorem comN_small {U : List (List Int)} (N : List Int) (hn : U.length ≤ 12) (s i : Nat) : comN U N s i < 1099511627776 := setB_small (by omega) _
theorem agA_small {U : List (List Int)} (N : List Int) (hn : U.length ≤ 12) (i : Nat) : agA U N i < 1099511627776 := setB_small (by omega) _
theorem com_start {U : List (List Int)} (N : List Int) (hn : U.length ≤ 12) (s : Nat) : wrap64 (((2 ^ U.length : Nat) : Int) - 1) = ((comN U N s 0 : Nat) : Int) := by
  have h1:=two_pow_le (show U.length≤40 by omega)
  have h1':=Nat.one_le_two_pow (n:=U.length)
  have h3:comN U N s 0=2 ^ U.length - 1:=by rw [setB_all];exact setB_congr fun i _=>rfl
  rw [h3]
  generalize 2 ^ U.length=x at h1 h1' ⊢
  unfold wrap64;omega
theorem impl_common.ev {U : List (List Int)} (N : List Int) (hn : U.length ≤ 12) {s : Nat} (hs : s < 4611686018427387904) : Ev (fun k => impl_common.f k (agF U N) (s : Int)) ((comS U N s : Nat) : Int) := by
  unfold impl_common.f
  rw [agF_length,shl_nat (by omega)]
  rw [com_start N hn s]
  refine Ev.loop (g:=fun k x i=>impl_common.l0 k (s:Int) x (agF U N) (U.length:Int) i) U.length (fun i x=>x=((comN U N s i:Nat):Int)) (by omega) (fun x h=>?_) (fun i x hi h=>?_) _ rfl
  · subst h
    refine Ev.succ ?_
    simp only [impl_common.l0]
    repeat(first|((with_reducible refine Ev.ite_pos ?_ ?_);(first|assumption|(focus omega)|(focus (simp;done))))|((with_reducible refine Ev.ite_neg ?_ ?_);(first|assumption|(focus omega)|(focus (simp;done)))))
    exact Ev.now _
  · subst h
    refine⟨_,rfl,fun K=>Ev.succ ?_⟩
    simp only [impl_common.l0,agF_length,rd_nat,agF_at U N i hi]
    repeat(first|((with_reducible refine Ev.ite_pos ?_ ?_);(first|assumption|(focus omega)|(focus (simp;done))))|((with_reducible refine Ev.ite_neg ?_ ?_);(first|assumption|(focus omega)|(focus (simp;done)))))
    refine Ev.pbind (has_nat s hs (by omega)) ?_
    rw [comN_succ] at K
    cases hb:s.testBit i with
    | true =>
      rw [hb,if_pos rfl] at K
      repeat(first|((with_reducible refine Ev.ite_pos ?_ ?_);(first|assumption|(focus omega)|(focus (simp;done))))|((with_reducible refine Ev.ite_neg ?_ ?_);(first|assumption|(focus omega)|(focus (simp;done)))))
      rw [band_nat (comN U N s i) (agA U N i) (by have:=comN_small N hn s i;omega) (by have:=agA_small N hn i;omega)]
      exact K
    | false =>
      rw [hb,if_neg (by simp)] at K
      repeat(first|((with_reducible refine Ev.ite_pos ?_ ?_);(first|assumption|(focus omega)|(focus (simp;done))))|((with_reducible refine Ev.ite_neg ?_ ?_);(first|assumption|(focus omega)|(focus (simp;done)))))
      exact K
theorem com_calls {U : List (List Int)} (N : List Int) (hn : U.length ≤ 12) (s : Nat) (hs : s < 4611686018427387904) (A : Option Addr) (c : Nat) (w : World) (hr : Kd.C (Kd.int .i64) w A U.length (agF U N)) (hc : U.length ≤ c) :
    Calls Try.prog 84 #[.slice A U.length c,.int .i64 (s:Int)] w fun e w'=>e= .returned (.int .i64 ((comS U N s:Nat):Int))∧Drawn0 w w':=by
  obtain⟨K,hK⟩:=(impl_common.ev N hn hs).rounds
  have:=impl_common.calls K A c (agF U N) (s:Int) _ w (by rw [agF_length];exact hr) (by rw [agF_length];exact hc) hK
  rwa [agF_length] at this
def alg_agreeing_1.T2 : Bool × List (List Nat × List Nat) := (true, [([], []), ([], []), ([0, 1], [0, 1]), ([2], [2]), ([], []), ([4], [4]), ([3, 5], [3, 5]), ([0, 1, 0, 1, 2, 3, 4, 5, 6], [0, 1]), ([7, 6, 0, 1, 2, 3, 4, 5, 6], [6, 7])])
def alg_agreeing_1.B2 : List Nat := [0, 0, 3, 7, 0, 16, 63, 127, 255]
theorem alg_agreeing_1.tab2 : rtab .any (opsOf Try.f137 2) = alg_agreeing_1.T2 := by kernel_rfl
theorem alg_agreeing_1.bits2 : waitsOk alg_agreeing_1.T2.2 alg_agreeing_1.B2 = true := by kernel_rfl
set_option maxHeartbeats 1000000 in
set_option maxRecDepth 100000 in
theorem agr_c1 (g : Nat) (U : List (List Int)) (N : List Int) (v : Adr) (w1 w : World) (L : Logic U N) (hV : View w1 g U N v) (gG gO gr c a b : Nat) (ha : a < U.length) (hb : b < U.length) (hJ : AgJ w1 gG g gO gr c U N (a * U.length + b) w) :
    Calls Try.prog 137 #[.int .i64 a,.int .i64 b,.pointer (some ⟨gG,0,none⟩),.pointer (some ⟨gO,0,none⟩)] w fun e w'=>e= .returned (.bool true)∧AgJ w1 gG g gO gr c U N (a*U.length+b+1) w':=by
  have HV:=Aside0.mk hV
  have HLg:=Aside0.mk L
  have HSM:=Aside0.mk L.small
  have HA:=Aside0.mk ha
  have HB:=Aside0.mk hb
  have HJ:=Aside0.mk hJ
  have HIA:=Aside0.mk (show In U (a:Int) from ⟨by omega,by omega⟩)
  have HIB:=Aside0.mk (show In U (b:Int) from ⟨by omega,by omega⟩)
  have HST:=Aside0.mk (agL_step U N ha hb)
  have x0:w.cell? ⟨gG,0,none⟩=some (.pointer (some ⟨g,0,none⟩)):=(blk_cell hJ.hG 0).trans rfl
  cases hB:bothB U N a b with
  | false =>
    have HBB:=Aside0.mk hB
    have HEQ:=Aside0.mk (show agL U N (a*U.length+b+1)=agL U N (a*U.length+b) by rw [HST.out,if_neg (by rw [hB];simp)])
    clear hV L ha hb hJ hB HST
    go_enter Try.func137,Try.ntmps137
    go_wp2_with (go_at_call 138;(with_reducible refine(alg_both.reads g U N v a b _ HLg.out ?s1 HIA.out HIB.out).mono ?_);(case s1=>exact HV.out.below HJ.out.hb);rintro e w' ⟨he,⟨⟨nd,rfl⟩⟩⟩;rw [HBB.out] at he;subst he;have HJ2:=Aside0.mk (HJ.out.drewN nd);clear HJ)
    go_ret
    have h:=HJ2.out
    exact⟨rfl,h.hb,h.hG,h.hO,by rw [HEQ.out];exact h.hR,h.hg,h.ho⟩
  | true =>
    have HBB:=Aside0.mk hB
    obtain⟨sv,hsv⟩: ∃sv:Int,sv=((agN U N (a*U.length+b) a:Nat):Int):=⟨_,rfl⟩
    obtain⟨tv,htv⟩: ∃tv:Int,tv=((agN U N (a*U.length+b) a|||2 ^ b:Nat):Int):=⟨_,rfl⟩
    obtain⟨pv,hpv⟩: ∃pv:Int,wrap64 (2 ^ min b 64)=pv:=⟨_,rfl⟩
    have e2_ : Go.bits .or .i64 sv pv = tv := by
      have h1:=setB_small (show U.length≤40 by have:=L.small;omega) (fun d=>decide (a*U.length+d<a*U.length+b) && bothB U N a d)
      have h2:=two_pow_le (show b≤40 by have:=L.small;omega)
      rw [hsv,htv,← hpv,Nat.min_eq_left (show b≤64 by have:=L.small;omega),← i64_w,wshl_nat (by have:=L.small;omega)]
      exact bor_nat _ _ (by unfold agN;omega) (by omega)
    have e1_:=hpv
    have HSET:=Aside0.mk (show agL U N (a*U.length+b+1)=(agL U N (a*U.length+b)).set a tv by rw [HST.out,if_pos hB,htv])
    have HCELL := Aside0.mk (show ∀ W, AgJ w1 gG g gO gr c U N (a * U.length + b) W → W.cell? ⟨gr, a, none⟩ = some (.int .i64 sv) from fun W h => by
      have h2:=(Kd.R_celln 0 h.hR (a:Int) (by omega) (by omega)).1
      rw [Int.toNat_natCast] at h2
      rw [h2,hsv,← agL_at U N _ a ha]
      rfl)
    have HFREE := Aside0.mk (show ∀ W, AgJ w1 gG g gO gr c U N (a * U.length + b) W → W.frozen? ⟨gr, a, none⟩ = false from fun W h => by
      have h2:=(Kd.R_celln 0 h.hR (a:Int) (by omega) (by omega)).2
      rwa [Int.toNat_natCast] at h2)
    have HNE1:=Aside0.mk (show∀W,AgJ w1 gG g gO gr c U N (a*U.length+b) W→some gG≠some gr from fun W h=>Kd.R_ne h.hR h.hG (by decide))
    have HNE2:=Aside0.mk (show∀W,AgJ w1 gG g gO gr c U N (a*U.length+b) W→some gO≠some gr from fun W h=>Kd.R_ne h.hR h.hO (by decide))
    have p1:(a<U.length)=True:=eq_true ha
    have p2:(0≤(a:Int))=True:=eq_true (by omega)
    have p3:((a:Int)<(U.length:Int))=True:=eq_true (by omega)
    clear hV L ha hb hJ hB HST hsv htv hpv
    go_enter Try.func137,Try.ntmps137
    go_wp2_with (go_at_call 138;(with_reducible refine(alg_both.reads g U N v a b _ HLg.out ?s1 HIA.out HIB.out).mono ?_);(case s1=>exact HV.out.below HJ.out.hb);rintro e w' ⟨he,⟨⟨nd,rfl⟩⟩⟩;rw [HBB.out] at he;subst he;have HJ2:=Aside0.mk (HJ.out.drewN nd);clear HJ x0)
    refine start_ (n:=9) (S:=(fun w'=>w'.cell? ⟨gO,0,none⟩=some (.slice (some ⟨gr,0,none⟩) U.length c)∧w'.cell? ⟨gr,a,none⟩=some (.int .i64 sv))) (ds:= [8]) (zqb 9 0) (by kernel_rfl) rfl rfl ⟨(blk_cell (HJ2.out.below (below_drew1 (Below.refl _ _))).hO 0).trans rfl,HCELL.out _ (HJ2.out.below (below_drew1 (Below.refl _ _)))⟩ (fun hHeld=>?_)
    refine with_tabW alg_agreeing_1.tab2 alg_agreeing_1.bits2 (fun HT_ HW_=>?_)
    have HJ3:=Aside0.mk (HJ2.out.below (below_drew1 (Below.refl _ _)))
    clear HJ2
    generalize (World.drewN w nd).drew=wd at HJ3 hHeld ⊢
    refine take_ (i:=0) (N:=some 11) (v:=?_) (a':=?_) (zqb 9 1) rfl rfl (take_ofW HT_.out HW_.out (by kernel_rfl)) (fun _ _ _ h=>h) (Or.inl ⟨by rfl,?_⟩) hHeld ?_ ?_
    rotate_left
    · rintro w' ⟨s0,s1⟩;go_simp;with_reducible rfl
    rotate_left
    · simp only [Act.put,List.setIfInBounds_toArray,List.set_cons_zero,List.set_cons_succ,i64_w,i32_w];rfl
    refine pure_ (i:=1) (N:=some 12) (v:=?_) (a':=?_) (zqb 9 3) rfl rfl (any_of HT_.out (by kernel_rfl)) (fun _ _ _ h=>h) (Or.inl ⟨by rfl,?_⟩) ?_ ?_
    rotate_left
    · intro w';go_simp;with_reducible rfl
    rotate_left
    · simp only [Act.put,List.setIfInBounds_toArray,List.set_cons_zero,List.set_cons_succ,i64_w,i32_w];rfl
    refine pure_ (i:=2) (N:=some 13) (v:=?_) (a':=?_) (zqb 9 7) rfl rfl (any_of HT_.out (by kernel_rfl)) (fun _ _ _ h=>h) (Or.inl ⟨by rfl,?_⟩) ?_ ?_
    rotate_left
    · intro w';go_simp;with_reducible rfl
    rotate_left
    · simp only [Act.put,List.setIfInBounds_toArray,List.set_cons_zero,List.set_cons_succ,i64_w,i32_w];rfl
    refine take_ (i:=3) (N:=some 14) (v:=?_) (a':=?_) (zqb 9 15) rfl rfl (take_ofW HT_.out HW_.out (by kernel_rfl)) (fun _ _ _ h=>h) (Or.inl ⟨by rfl,?_⟩) hHeld ?_ ?_
    rotate_left
    · rintro w' ⟨s0,s1⟩;go_simp;with_reducible rfl
    rotate_left
    · simp only [Act.put,List.setIfInBounds_toArray,List.set_cons_zero,List.set_cons_succ,i64_w,i32_w];rfl
    refine pure_ (i:=4) (N:=some 15) (v:=?_) (a':=?_) (zqb 9 31) rfl rfl (any_of HT_.out (by kernel_rfl)) (fun _ _ _ h=>h) (Or.inl ⟨by rfl,?_⟩) ?_ ?_
    rotate_left
    · intro w';go_simp;with_reducible rfl
    rotate_left
    · simp only [Act.put,List.setIfInBounds_toArray,List.set_cons_zero,List.set_cons_succ,i64_w,i32_w];rfl
    refine pure_ (i:=5) (N:=some 16) (v:=?_) (a':=?_) (zqb 9 63) rfl rfl (any_of HT_.out (by kernel_rfl)) (fun _ _ _ h=>h) (Or.inl ⟨by rfl,?_⟩) ?_ ?_
    rotate_left
    · intro w';go_simp;with_reducible rfl
    rotate_left
    · simp only [Act.put,List.setIfInBounds_toArray,List.set_cons_zero,List.set_cons_succ,i64_w,i32_w];rfl
    refine pure_ (i:=6) (N:=some 17) (v:=?_) (a':=?_) (zqb 9 127) rfl rfl (any_of HT_.out (by kernel_rfl)) (fun _ _ _ h=>h) (Or.inl ⟨by rfl,?_⟩) ?_ ?_
    rotate_left
    · intro w';go_simp;with_reducible rfl
    rotate_left
    · simp only [Act.put,List.setIfInBounds_toArray,List.set_cons_zero,List.set_cons_succ,i64_w,i32_w];rfl
    refine pure_ (i:=7) (N:=some 18) (v:=?_) (a':=?_) (zqb 9 255) rfl rfl (any_of HT_.out (by kernel_rfl)) (fun _ _ _ h=>h) (Or.inl ⟨by rfl,?_⟩) ?_ ?_
    rotate_left
    · intro w';go_simp;with_reducible rfl
    rotate_left
    · simp only [Act.put,List.setIfInBounds_toArray,List.set_cons_zero,List.set_cons_succ,i64_w,i32_w];rfl
    have hs_:=HCELL.out _ HJ3.out
    have hf_:=HFREE.out _ HJ3.out
    refine last_ (i:=8) (N:=none) (zqb 9 511) rfl rfl (one_of HT_.out (by kernel_rfl)) (by decide) (fun K hK=>?_)
    refine skip_ (w1:=wd.setCell ⟨gr,a,none⟩ (.int .i64 tv)) (by rfl) rfl ?_ ?_
    · go_simp
    refine hK.out _ _ ?_
    clear hK K
    have HP:=Kd.R_putg HJ3.out.hR (a:Int) tv
    rw [Int.toNat_natCast] at HP
    have HJ7:=Aside0.mk (show AgJ w1 gG g gO gr c U N (a*U.length+b+1) (wd.setCell ⟨gr,a,none⟩ (.int .i64 tv)) from ⟨below_set HJ3.out.hb (Kd.R_base HJ3.out.hR gr rfl),blk_grown HJ3.out.hG HP.2 (HNE1.out _ HJ3.out),blk_grown HJ3.out.hO HP.2 (HNE2.out _ HJ3.out),by rw [HSET.out];exact HP.1,HJ3.out.hg,HJ3.out.ho⟩)
    generalize wd.setCell ⟨gr,a,none⟩ (.int .i64 tv)=w7 at HJ7 ⊢
    clear hs_ hf_ HJ3 HP
    refine done_ (done_of HT_.out (by kernel_rfl)) ?_
    go_wp2
    go_ret
    exact⟨rfl,by repeat(first|exact HJ7.out|apply AgJ.drewN)⟩
set_option maxHeartbeats 1000000 in
set_option maxRecDepth 100000 in
theorem agreeing_calls (g : Nat) (U : List (List Int)) (N : List Int) (v : Adr) (w : World) (L : Logic U N) (hV : View w g U N v) :
    Calls Try.prog 83 #[.pointer (some ⟨g,0,none⟩)] w fun e w'=> ∃A c,e= .returned (.slice A U.length c)∧Kd.R (Kd.int .i64) 3 w' w.heap.size (fun _=>True) (.slice A U.length c) (agF U N)∧Below w.heap.size w w':=by
  have hu70:=Try.underlying74
  have HV:=Aside0.mk hV
  have HLg:=Aside0.mk L
  have HSM:=Aside0.mk L.small
  have b0_:decide (0≤(U.length:Int))=true:=decide_eq_true (by omega)
  clear hV L
  go_enter Try.func83,Try.ntmps83
  go_wp2_with (first|((with_reducible refine gate_dst (N:=1) rfl ?_);refine box_event ?hg (N:=1) ?hd (cs:= #[.pointer (some ⟨g,0,none⟩)]) (t:=67) ?hr ?_;(case hd=>rfl);(case hg=>rfl);(case hr=>first|(go_simp;done)|(go_simp;rfl));intro gG hg_ w1 hbox hb;have HX:=Aside0.mk hbox;have HGG:=Aside0.mk hg_;have HB1:=Aside0.mk hb;have x0:w1.cell? ⟨gG,0,none⟩=some (.pointer (some ⟨g,0,none⟩)):=(blk_cell hbox 0).trans rfl;have hf0:=(HV.out.below hb).f0;clear hbox hb hg_)|((with_reducible refine gate_dst (N:=9) rfl ?_);refine Kd.R_make (Kd.int .i64) _ 3 rfl (N:=9) rfl 24 _ _ rfl (U.length:Int) rfl rfl Try.underlying24 (.int .i64 0) 8 infoInt rfl (by decide) (by omega) 0 (ok:=fun _=>True) (okp:=fun _=>True) rfl (fun _ hk=>hk) trivial (by omega) (by rw [Int.toNat_natCast];have:=HSM.out;omega) (Below.refl _ _) (Nat.le_refl _) ?_;intro vr w2 ho hb hg_ hat_;rw [Int.toNat_natCast] at ho;obtain⟨b_,e_,hl_⟩:=hat_;have hs_:=Kd.R_slice ho;rw [List.length_replicate] at hs_;obtain⟨Ar,cr,rfl⟩:=hs_;obtain⟨gr,hAr⟩: ∃gr,Ar=some ⟨gr,0,none⟩:=(by obtain⟨gr,cap,e2,_⟩:=Kd.R_form ho (by rw [List.length_replicate];exact HLg.out.pos);injection e2 with e3;exact⟨gr,e3⟩);subst hAr;have HO2:=Aside0.mk (Kd.R_lower (Kd.R_mono (Kd.R_tight rfl ho) (fun k hk=>(Option.some.inj hk:k=gr))) (below_size HB1.out));have HB2:=Aside0.mk (below_step HB1.out hb);have HX2:=Aside0.mk (blk_below HX.out hb);have x0':(w2.alloc (.cells #[.slice (some ⟨gr,0,none⟩) U.length cr] 24)).cell? ⟨gG,0,none⟩=some (.pointer (some ⟨g,0,none⟩)):=(blk_cell (blk_alloc HX2.out _) 0).trans rfl;clear ho hb hg_ x0 hf0 e_ hl_)|(go_at_call 71;(with_reducible refine(every_calls g U N v _ HSM.out 137 _ #[.pointer (some ⟨gG,0,none⟩),.pointer (some ⟨w2.heap.size,0,none⟩)] Try.func137 (by kernel_rfl) rfl (fun _ _=>true) (AgJ w gG g w2.heap.size gr cr U N) ?tV ?tD ?t0 ?tS).mono ?_);(case tV=>exact fun i W h=>HV.out.below h.hb);(case tD=>exact fun i W n h=>h.drewN n);(case t0=>exact⟨below_alloc HB2.out _,blk_alloc HX2.out _,(MapKept.heap_alloc w2 _).1,(by rw [agL_zero];exact Kd.R_alloc HO2.out _),(by rw [HGG.out];exact Nat.le_refl _),below_size HB2.out⟩);(case tS=>exact fun a b ha hb W h=>agr_c1 g U N v w W HLg.out HV.out gG w2.heap.size gr cr a b ha hb h);rintro e w3 ⟨rfl,i,hj,hi⟩;have hi2:=hi (allN_iff.2 fun _ _=>allN_iff.2 fun _ _=>rfl);subst hi2;have HJ:=Aside0.mk hj;have y0:w3.cell? ⟨w2.heap.size,0,none⟩=some (.slice (some ⟨gr,0,none⟩) U.length cr):=(blk_cell hj.hO 0).trans rfl;clear hj hi x0'))
  go_ret
  have h:=HJ.out
  have hR:=h.hR
  rw [agL_all] at hR
  exact⟨_,_,rfl,Kd.R_mono hR (fun _ _=>trivial),h.hb⟩
def blkP (U : List (List Int)) (N : List Int) (s : Nat) : Bool := decide (1 ≤ s) && (comS U N s == s)
def blkN (U : List (List Int)) (N : List Int) : List Nat := (List.range (2 ^ U.length)).filter (blkP U N)
def blkL (U : List (List Int)) (N : List Int) : List Int := filI (2 ^ U.length) (blkP U N)
theorem blkL_eq (U : List (List Int)) (N : List Int) : blkL U N = (blkN U N).map fun (s : Nat) => (s : Int) := rfl
theorem filI_one (U : List (List Int)) (N : List Int) : filI 1 (blkP U N) = [] := by
  rw [filI_succ, filI_zero, if_neg (by simp [blkP])]
def impl_BlocksOf.f (l0_0 : List (List Int)) (l0_1 : List Int) : Option (List Int) := some (if logicB l0_0 l0_1 = true then blkL l0_0 l0_1 else [])
set_option maxHeartbeats 4000000 in
set_option maxRecDepth 100000 in
theorem impl_BlocksOf.calls (A0_0 : Option Addr) (c0_0 : Nat) (l0_0 : List (List Int)) (A0_1 : Option Addr) (c0_1 : Nat) (l0_1 : List Int) (r : List Int) (w : World) (hr0_0 : Kd.C (Kd.slice 3 (Kd.int .i64)) w A0_0 l0_0.length l0_0) (hc0_0 : l0_0.length ≤ c0_0) (hr0_1 : Kd.C (Kd.int .i64) w A0_1 l0_1.length l0_1) (hc0_1 : l0_1.length ≤ c0_1) (h : impl_BlocksOf.f l0_0 l0_1 = some r) :
    Calls Try.prog 20 #[.agg #[.slice A0_0 l0_0.length c0_0,.slice A0_1 l0_1.length c0_1]] w fun e w'=> ∃v0_:Value,e= .returned (v0_)∧Kd.R (Kd.int .i64) 3 w' w.heap.size (fun _=>True) v0_ r∧Below w.heap.size w w':=by
  obtain⟨k,hF⟩:=told_facts l0_0
  have hu30:=Try.underlying26
  have hu70:=Try.underlying74
  have HF:=Aside0.mk hF
  have HR0:=Aside0.mk hr0_0
  have HC0:=Aside0.mk hc0_0
  have HR1:=Aside0.mk hr0_1
  have HC1:=Aside0.mk hc0_1
  simp only [impl_BlocksOf.f,Option.some.injEq] at h
  clear hr0_0 hc0_0 hr0_1 hc0_1 hF
  cases hL:logicB l0_0 l0_1 with
  | false =>
    rw [hL] at h
    have hr_: []=r:=by simpa using h
    subst hr_
    have HLB:=Aside0.mk hL
    clear h hL
    go_enter Try.func20,Try.ntmps20
    go_wp2_with (first|((with_reducible refine gate_dst (N:=1) rfl ?_);refine box_event ?hg (N:=1) ?hd (cs:= #[.slice A0_0 l0_0.length c0_0,.slice A0_1 l0_1.length c0_1]) (t:=26) ?hr ?_;(case hd=>rfl);(case hg=>rfl);(case hr=>first|(go_simp;done)|(go_simp;rfl));intro gb hg_ w1 hbox hb;have HB:=Aside0.mk hb;have hx0:w1.cell? ⟨gb,0,none⟩=some (.slice A0_0 l0_0.length c0_0):=(blk_cell hbox 0).trans rfl;have hx1:w1.cell? ⟨gb,1,none⟩=some (.slice A0_1 l0_1.length c0_1):=(blk_cell hbox 1).trans rfl;have HX:=Aside0.mk hbox;clear hbox hb hg_)|(go_at_call 70;(with_reducible refine(told_n k _ _ l0_0 _ _ l0_1 _ ?s1 ?s2 ?s3 ?s4 HF.out HLB.out).mono ?_);(case s1=>exact Kd.C_below HR0.out HB.out);(case s2=>exact HC0.out);(case s3=>exact Kd.C_below HR1.out HB.out);(case s4=>exact HC1.out);rintro e w2 ⟨rfl,hb⟩;have HB2:=Aside0.mk (below_step HB.out hb);clear hb hx0 hx1 HX HB))
    go_ret
    exact⟨_,rfl,Kd.R_nil _ _ _ _ _,zq233⟩
  | true =>
    rw [hL] at h
    have hr_:blkL l0_0 l0_1=r:=by simpa using h
    subst hr_
    have HLB:=Aside0.mk hL
    have HLg:=Aside0.mk (logicB_iff.1 hL)
    have HSM:=Aside0.mk (logicB_iff.1 hL).small
    obtain⟨M,hM⟩: ∃M:Nat,M=2 ^ l0_0.length:=⟨_,rfl⟩
    obtain⟨mv,hmv⟩: ∃mv:Int,mv=(M:Int):=⟨_,rfl⟩
    have hM1:1≤M:=by rw [hM];exact Nat.one_le_two_pow
    have hM2:M≤4096:=by rw [hM];exact Nat.pow_le_pow_right (by omega) (show l0_0.length≤12 from HSM.out)
    have e1_:wrap64 (2 ^ min l0_0.length 64)=mv:=by rw [Nat.min_eq_left (show l0_0.length≤64 by have:=HSM.out;omega),← i64_w,wshl_nat (by have:=HSM.out;omega),hmv,hM]
    have e2_:IntKind.i64.wrap (2 ^ min l0_0.length 64)=mv:=by rw [i64_w];exact e1_
    have HM:=Aside0.mk hM
    have HMV:=Aside0.mk hmv
    have HM1:=Aside0.mk hM1
    have HM2:=Aside0.mk hM2
    clear h hL hM hmv hM1 hM2
    go_enter Try.func20,Try.ntmps20
    go_wp2_with (first|((with_reducible refine gate_dst (N:=1) rfl ?_);refine box_event ?hg (N:=1) ?hd (cs:= #[.slice A0_0 l0_0.length c0_0,.slice A0_1 l0_1.length c0_1]) (t:=26) ?hr ?_;(case hd=>rfl);(case hg=>rfl);(case hr=>first|(go_simp;done)|(go_simp;rfl));intro gb hg_ w1 hbox hb;have HB:=Aside0.mk hb;have hx0:w1.cell? ⟨gb,0,none⟩=some (.slice A0_0 l0_0.length c0_0):=(blk_cell hbox 0).trans rfl;have hx1:w1.cell? ⟨gb,1,none⟩=some (.slice A0_1 l0_1.length c0_1):=(blk_cell hbox 1).trans rfl;have HX:=Aside0.mk hbox;clear hbox hb hg_)|(go_at_call 70;(with_reducible refine(told_y k _ _ l0_0 _ _ l0_1 _ ?s1 ?s2 ?s3 ?s4 HF.out HLB.out).mono ?_);(case s1=>exact Kd.C_below HR0.out HB.out);(case s2=>exact HC0.out);(case s3=>exact Kd.C_below HR1.out HB.out);(case s4=>exact HC1.out);rintro e w2 ⟨g,v,rfl,hv,hge,hb⟩;have HB2:=Aside0.mk (below_step HB.out hb);have HV:=Aside0.mk hv;clear hv hge hb hx0 hx1 HX HB)|((with_reducible refine gate_dst (N:=11) rfl ?_);refine Kd.R_lit (Kd.int .i64) _ 3 ?hg (N:=11) ?hd (xs:=([]:List Int)) (inner:= []) (ok:=fun _=>True) (okp:=fun _=>True) ?hr ?hp (fun _ hk=>hk) trivial (Below.refl _ _) (Nat.le_refl _) (by simp) ?_;(case hd=>rfl);(case hg=>rfl);(case hr=>first|(go_simp;done)|(go_simp;rfl));(case hp=>exact(Reps.none _ _));intro v0 w3 ho hb hg_ hnew_;clear hg_ hnew_;have HO3:=Aside0.mk (Kd.R_mono (Kd.R_bound ho) (fun k hk=>hk.2.2.1));have HB3:=Aside0.mk hb;have HV3:=Aside0.mk (HV.out.below hb);clear ho hb)|(go_at_call 83;(with_reducible refine(agreeing_calls g l0_0 l0_1 v _ HLg.out HV3.out).mono ?_);rintro e w4 ⟨Aa,ca,rfl,ho,hb⟩;have HA4:=Aside0.mk (Kd.R_lower (Kd.R_mono (Kd.R_bound ho) (fun k hk=>(⟨hk.2.1,hk.2.2.1⟩:w3.heap.size≤k∧k<w4.heap.size))) (below_size HB3.out));have HO4:=Aside0.mk (Kd.R_mono (Kd.R_below HO3.out hb) (fun k hk=>(Or.inl hk:k<w3.heap.size∨w4.heap.size≤k)));have HB4:=Aside0.mk (below_step HB3.out hb);have HV4:=Aside0.mk (HV3.out.below hb);have hf0:=HV4.out.f0;clear ho hb HO3 HV3 HB3))
    go_loopg [6,4] M (fun kq v6 v4 W=> ∃s:Nat,v6= .int .i64 s∧Aside0 (s+kq=M+1)∧Aside0 (1≤s)∧Aside0 (s≤M)∧Aside0 (Kd.R (Kd.int .i64) 3 W w2.heap.size (fun k=>k<w3.heap.size∨w4.heap.size≤k) v4 (filI s (blkP l0_0 l0_1)))∧Aside0 (Kd.R (Kd.int .i64) 3 W w2.heap.size (fun k=>w3.heap.size≤k∧k<w4.heap.size) (.slice Aa l0_0.length ca) (agF l0_0 l0_1))∧Aside0 (Below w2.heap.size w2 W)∧Aside0 (w4.heap.size≤W.heap.size))
    case atStart=>exact⟨1,by first|rfl|simp,⟨by have:=HM1.out;omega⟩,⟨by omega⟩,⟨HM1.out⟩,⟨by rw [filI_one];exact HO4.out⟩,HA4,HB4,⟨Nat.le_refl _⟩⟩
    case round =>
      clear hf0
      obtain⟨s,rfl,HK,HK1,HK2,HOr,HAr,HBr,HEr⟩:=hrel
      have hf0:=(HV.out.below HBr.out).f0
      cases gk with
      |zero=>exact absurd HK.out (by have:=HK2.out;omega)
      |succ kn=>
      by_cases hlt:s<M
      · have hlt' : decide ((s : Int) < mv) = true := decide_eq_true (by rw [HMV.out]; omega)
        have HLT:=Aside0.mk hlt
        have HC:=Aside0.mk (show Kd.C (Kd.int .i64) wr Aa l0_0.length (agF l0_0 l0_1)∧l0_0.length≤ca by have h:=Kd.R_reads' HAr.out;rw [agF_length] at h;exact⟨h.2.2,h.2.1⟩)
        clear hlt
        by_cases hc:comS l0_0 l0_1 s=s
        · have HCS := Aside0.mk (show ((comS l0_0 l0_1 s : Nat) : Int) = (s : Int) by rw [hc])
          have HP:=Aside0.mk (show blkP l0_0 l0_1 s=true by unfold blkP;rw [hc,decide_eq_true HK1.out];simp)
          clear hc
          go_wp2_with (first|(go_at_call 84;(with_reducible refine(com_calls l0_1 HSM.out s (by have:=HLT.out;have:=HM2.out;omega) Aa ca _ HC.out.1 HC.out.2).mono ?_);rintro e w' ⟨he,⟨⟨nd,rfl⟩⟩⟩;rw [HCS.out] at he;subst he;have HO5:=Aside0.mk (Kd.R_drewN HOr.out nd);have HA5:=Aside0.mk (Kd.R_drewN HAr.out nd);have HB5:=Aside0.mk (pw_below_drewN HBr.out nd);clear HOr HAr HBr HC hf0)|((with_reducible refine gate_builtin (b:= .append) (xs:= #[.tmp 29,.tmp 31]) rfl ?_);at_builtin;refine Kd.R_append (Kd.int .i64) (w0:=w2) w2.heap.size rfl (.tmp 29) (.tmp 31) 24 3 (.int .i64 0) 8 rfl Try.underlying24 infoInt rfl (by decide) (by omega) u4 (filI s (blkP l0_0 l0_1)) (s:Int) [.int .i64 s] (fun k=>k<w3.heap.size∨w4.heap.size≤k) (fun _=>False) rfl rfl ?aP (fun _ hk=>hk.elim) ?aF ?aO ?aB ?aS ?aL ?_;(case aP=>exact rfl);(case aB=>exact HB5.out);(case aF=>exact(fun k hk=>Or.inr (Nat.le_trans HEr.out hk)));(case aO=>exact HO5.out);(case aS=>exact(below_size HB5.out));(case aL=>have:=filI_length s (blkP l0_0 l0_1);have:=HLT.out;have:=HM2.out;omega);intro v4n w21 ho hb hg hat;have HB6:=Aside0.mk hb;have HO6:=Aside0.mk ho;have HA6:=Aside0.mk (Kd.R_grown HA5.out hg (fun k hk he=>by have h2:=HO5.out.1 k he.symm;have:=hk.1;have:=hk.2;omega));have HE6:=Aside0.mk (show w4.heap.size≤w21.heap.size from Nat.le_trans HEr.out hg.size);clear ho hb hg hat HO5 HA5 HB5 HEr))
          go_roundg kn
          case measure=>omega
          case rel=>exact⟨s+1,zq324,⟨by have:=HK.out;omega⟩,⟨by omega⟩,⟨by have:=HLT.out;omega⟩,⟨by rw [filI_succ,if_pos HP.out];exact HO6.out⟩,HA6,HB6,HE6⟩
        · obtain ⟨cv, hcv⟩ : ∃ cv : Int, ((comS l0_0 l0_1 s : Nat) : Int) = cv := ⟨_, rfl⟩
          have hne:(cv==(s:Int))=false:=by rw [beq_eq_false_iff_ne,← hcv];omega
          have HCS:=Aside0.mk hcv
          have HP:=Aside0.mk (show blkP l0_0 l0_1 s=false by unfold blkP;rw [show (comS l0_0 l0_1 s==s)=false by simpa using hc,Bool.and_false])
          clear hc hcv
          go_wp2_with (go_at_call 84;(with_reducible refine(com_calls l0_1 HSM.out s (by have:=HLT.out;have:=HM2.out;omega) Aa ca _ HC.out.1 HC.out.2).mono ?_);rintro e w' ⟨he,⟨⟨nd,rfl⟩⟩⟩;rw [HCS.out] at he;subst he;have HO5:=Aside0.mk (Kd.R_drewN HOr.out nd);have HA5:=Aside0.mk (Kd.R_drewN HAr.out nd);have HB5:=Aside0.mk (pw_below_drewN HBr.out nd);clear HOr HAr HBr HC hf0)
          go_roundg kn
          case measure=>omega
          case rel=>exact⟨s+1,zq324,⟨by have:=HK.out;omega⟩,⟨by omega⟩,⟨by have:=HLT.out;omega⟩,⟨by rw [filI_succ,if_neg (by rw [HP.out];simp)];exact HO5.out⟩,HA5,HB5,HEr⟩
      · have hlt' : decide ((s : Int) < mv) = false := decide_eq_false (by rw [HMV.out]; omega)
        obtain rfl:s=M:=by have:=HK2.out;omega
        clear hlt
        go_wp2_with fail
        go_ret
        exact⟨_,rfl,Kd.R_lower (Kd.R_mono (by have h:=HOr.out;rw [HM.out] at h;exact h) (fun _ _=>trivial)) (below_size HB2.out),below_step HB2.out (by repeat(first|exact HBr.out|apply pw_below_drewN|apply below_drew1))⟩
def blkC (U : List (List Int)) (N : List Int) (a : Nat) (i : Nat) : Nat := ((blkN U N).take i).countP fun s => s.testBit a
theorem blkL_length (U : List (List Int)) (N : List Int) : (blkL U N).length = (blkN U N).length := by rw [blkL_eq, List.length_map]
theorem blkL_at (U : List (List Int)) (N : List Int) (i : Nat) : at1 (blkL U N) i = (((blkN U N).getD i 0 : Nat) : Int) := by
  rw [blkL_eq]
  simp only [at1, List.getD_eq_getElem?_getD, List.getElem?_map]
  cases (blkN U N)[i]? <;> rfl
theorem blkN_lt {U : List (List Int)} {N : List Int} (hn : U.length ≤ 12) (i : Nat) : (blkN U N).getD i 0 < 4611686018427387904 := by
  rw [List.getD_eq_getElem?_getD]
  cases h:(blkN U N)[i]? with
  |none=>simp
  | some s =>
    have h1:s ∈ blkN U N:=List.mem_of_getElem? h
    have h2 : s < 2 ^ U.length := by
      have:=(List.mem_filter.1 h1).1
      simpa using this
    have:=two_pow_le (show U.length≤40 by omega)
    simp;omega
theorem blkN_len {U : List (List Int)} (N : List Int) (hn : U.length ≤ 12) : (blkN U N).length ≤ 4096 := by
  have h1:=List.length_filter_le (blkP U N) (List.range (2 ^ U.length))
  have h2:2 ^ U.length≤4096:=Nat.pow_le_pow_right (by omega) hn
  rw [List.length_range] at h1
  exact Nat.le_trans h1 h2
theorem blkC_succ (U : List (List Int)) (N : List Int) (a : Nat) {i : Nat} (hi : i < (blkN U N).length) : blkC U N a (i + 1) = blkC U N a i + if ((blkN U N).getD i 0).testBit a = true then 1 else 0 := by
  unfold blkC
  rw [List.take_succ_eq_append_getElem hi,List.countP_append,List.countP_cons,List.countP_nil,List.getD_eq_getElem?_getD,List.getElem?_eq_getElem hi]
  simp
theorem blkC_le (U : List (List Int)) (N : List Int) (a i : Nat) : blkC U N a i ≤ i := by
  unfold blkC
  exact Nat.le_trans List.countP_le_length (by rw [List.length_take]; omega)
def impl_BlocksWith.f (l0_0 : List (List Int)) (l0_1 : List Int) (a1 : Int) : Option (Int) := some (if logicB l0_0 l0_1 = true then (if [a1].all (inR l0_0.length) = true then (((blkN l0_0 l0_1).countP fun s => s.testBit a1.toNat : Nat) : Int) else -1) else -1)
set_option maxHeartbeats 4000000 in
set_option maxRecDepth 100000 in
theorem impl_BlocksWith.calls (A0_0 : Option Addr) (c0_0 : Nat) (l0_0 : List (List Int)) (A0_1 : Option Addr) (c0_1 : Nat) (l0_1 : List Int) (a1 : Int) (r : Int) (w : World) (hr0_0 : Kd.C (Kd.slice 3 (Kd.int .i64)) w A0_0 l0_0.length l0_0) (hc0_0 : l0_0.length ≤ c0_0) (hr0_1 : Kd.C (Kd.int .i64) w A0_1 l0_1.length l0_1) (hc0_1 : l0_1.length ≤ c0_1) (h : impl_BlocksWith.f l0_0 l0_1 a1 = some r) :
    Calls Try.prog 23 #[.agg #[.slice A0_0 l0_0.length c0_0,.slice A0_1 l0_1.length c0_1],.int .i64 a1] w fun e w'=>e= .returned (.int .i64 r)∧Below w.heap.size w w':=by
  obtain⟨k,hF⟩:=told_facts l0_0
  have hu30:=Try.underlying26
  have hu70:=Try.underlying74
  have HF:=Aside0.mk hF
  have HR0:=Aside0.mk hr0_0
  have HC0:=Aside0.mk hc0_0
  have HR1:=Aside0.mk hr0_1
  have HC1:=Aside0.mk hc0_1
  simp only [impl_BlocksWith.f,Option.some.injEq] at h
  clear hr0_0 hc0_0 hr0_1 hc0_1 hF
  cases hL:logicB l0_0 l0_1 with
  | false =>
    rw [hL] at h
    have hr_: -1=r:=by simpa using h
    subst hr_
    have HLB:=Aside0.mk hL
    clear h hL
    go_enter Try.func23,Try.ntmps23
    go_wp2_with (first|((with_reducible refine gate_dst (N:=2) rfl ?_);refine box_event ?hg (N:=2) ?hd (cs:= #[.slice A0_0 l0_0.length c0_0,.slice A0_1 l0_1.length c0_1]) (t:=26) ?hr ?_;(case hd=>rfl);(case hg=>rfl);(case hr=>first|(go_simp;done)|(go_simp;rfl));intro gb hg_ w1 hbox hb;have HB:=Aside0.mk hb;have hx0:w1.cell? ⟨gb,0,none⟩=some (.slice A0_0 l0_0.length c0_0):=(blk_cell hbox 0).trans rfl;have hx1:w1.cell? ⟨gb,1,none⟩=some (.slice A0_1 l0_1.length c0_1):=(blk_cell hbox 1).trans rfl;have HX:=Aside0.mk hbox;clear hbox hb hg_)|(go_at_call 70;(with_reducible refine(told_n k _ _ l0_0 _ _ l0_1 _ ?s1 ?s2 ?s3 ?s4 HF.out HLB.out).mono ?_);(case s1=>exact Kd.C_below HR0.out HB.out);(case s2=>exact HC0.out);(case s3=>exact Kd.C_below HR1.out HB.out);(case s4=>exact HC1.out);rintro e w2 ⟨rfl,hb⟩;have HB2:=Aside0.mk (below_step HB.out hb);clear hb hx0 hx1 HX HB)|(go_at_call 87;(with_reducible refine(knows_nil _ _ _ _).mono ?_);rintro e w3 ⟨rfl,hb⟩;have HB3:=Aside0.mk (below_step zq233 hb);clear hb))
    go_ret
    exact⟨rfl,HB3.out⟩
  | true =>
    have HLB:=Aside0.mk hL
    have HLg:=Aside0.mk (logicB_iff.1 hL)
    have HSM:=Aside0.mk (logicB_iff.1 hL).small
    cases hin: [a1].all (inR l0_0.length) with
    | false =>
      rw [hL,hin] at h
      have hr_: -1=r:=by simpa using h
      subst hr_
      have HIN:=Aside0.mk hin
      clear h hL hin
      go_enter Try.func23,Try.ntmps23
      go_wp2_with (first|((with_reducible refine gate_dst (N:=2) rfl ?_);refine box_event ?hg (N:=2) ?hd (cs:= #[.slice A0_0 l0_0.length c0_0,.slice A0_1 l0_1.length c0_1]) (t:=26) ?hr ?_;(case hd=>rfl);(case hg=>rfl);(case hr=>first|(go_simp;done)|(go_simp;rfl));intro gb hg_ w1 hbox hb;have HB:=Aside0.mk hb;have hx0:w1.cell? ⟨gb,0,none⟩=some (.slice A0_0 l0_0.length c0_0):=(blk_cell hbox 0).trans rfl;have hx1:w1.cell? ⟨gb,1,none⟩=some (.slice A0_1 l0_1.length c0_1):=(blk_cell hbox 1).trans rfl;have HX:=Aside0.mk hbox;clear hbox hb hg_)|(go_at_call 70;(with_reducible refine(told_y k _ _ l0_0 _ _ l0_1 _ ?s1 ?s2 ?s3 ?s4 HF.out HLB.out).mono ?_);(case s1=>exact Kd.C_below HR0.out HB.out);(case s2=>exact HC0.out);(case s3=>exact Kd.C_below HR1.out HB.out);(case s4=>exact HC1.out);rintro e w2 ⟨g,v,rfl,hv,hge,hb⟩;have HB2:=Aside0.mk (below_step HB.out hb);have HV:=Aside0.mk hv;clear hv hge hb hx0 hx1 HX HB)|(go_at_call 87;(with_reducible refine(knows_calls g l0_0 l0_1 v _ HLg.out ?s1 _ _ [a1] 1 rfl ?s2 (by omega) false HIN.out).mono ?_);(case s1=>exact View.alloc HV.out _);(case s2=>exact lit_C _ _ [a1] (by simp));rintro e w3 ⟨rfl,hb⟩;have HB3:=Aside0.mk (below_step (below_alloc HB2.out _) hb);have HV3:=Aside0.mk (View.below (View.alloc HV.out _) hb);clear hb))
      go_ret
      exact⟨rfl,HB3.out⟩
    | true =>
      rw [hL,hin] at h
      have hr_:(((blkN l0_0 l0_1).countP fun s=>s.testBit a1.toNat:Nat):Int)=r:=by simpa using h
      subst hr_
      have HIN:=Aside0.mk hin
      have hin2:=hin
      simp only [List.all_cons,List.all_nil,Bool.and_true,Bool.and_eq_true,inR_iff] at hin2
      have Ia1:=Aside0.mk (hin2)
      clear h hL hin hin2
      go_enter Try.func23,Try.ntmps23
      have HBV:=Aside0.mk (show impl_BlocksOf.f l0_0 l0_1=some (blkL l0_0 l0_1) by unfold impl_BlocksOf.f;rw [HLB.out,if_pos rfl])
      go_wp2_with (first|((with_reducible refine gate_dst (N:=2) rfl ?_);refine box_event ?hg (N:=2) ?hd (cs:= #[.slice A0_0 l0_0.length c0_0,.slice A0_1 l0_1.length c0_1]) (t:=26) ?hr ?_;(case hd=>rfl);(case hg=>rfl);(case hr=>first|(go_simp;done)|(go_simp;rfl));intro gb hg_ w1 hbox hb;have HB:=Aside0.mk hb;have hx0:w1.cell? ⟨gb,0,none⟩=some (.slice A0_0 l0_0.length c0_0):=(blk_cell hbox 0).trans rfl;have hx1:w1.cell? ⟨gb,1,none⟩=some (.slice A0_1 l0_1.length c0_1):=(blk_cell hbox 1).trans rfl;have HX:=Aside0.mk hbox;clear hbox hb hg_)|(go_at_call 70;(with_reducible refine(told_y k _ _ l0_0 _ _ l0_1 _ ?s1 ?s2 ?s3 ?s4 HF.out HLB.out).mono ?_);(case s1=>exact Kd.C_below HR0.out HB.out);(case s2=>exact HC0.out);(case s3=>exact Kd.C_below HR1.out HB.out);(case s4=>exact HC1.out);rintro e w2 ⟨g,v,rfl,hv,hge,hb⟩;have HB2:=Aside0.mk (below_step HB.out hb);have HV:=Aside0.mk hv;have HX2:=Aside0.mk (blk_below HX.out hb);clear hv hge hb hx0 hx1 HX HB)|(go_at_call 87;(with_reducible refine(knows_calls g l0_0 l0_1 v _ HLg.out ?s1 _ _ [a1] 1 rfl ?s2 (by omega) true HIN.out).mono ?_);(case s1=>exact View.alloc HV.out _);(case s2=>exact lit_C _ _ [a1] (by simp));rintro e w3 ⟨rfl,hb⟩;have HB3:=Aside0.mk (below_step (below_alloc HB2.out _) hb);have HV3:=Aside0.mk (View.below (View.alloc HV.out _) hb);have HX3:=Aside0.mk (blk_below (blk_alloc HX2.out _) hb);have hx0:w3.cell? ⟨gb,0,none⟩=some (.slice A0_0 l0_0.length c0_0):=(blk_cell HX3.out 0).trans rfl;have hx1:w3.cell? ⟨gb,1,none⟩=some (.slice A0_1 l0_1.length c0_1):=(blk_cell HX3.out 1).trans rfl;clear hb)|(go_at_call 20;(with_reducible refine(impl_BlocksOf.calls _ _ l0_0 _ _ l0_1 (blkL l0_0 l0_1) _ ?t1 ?t2 ?t3 ?t4 HBV.out).mono ?_);(case t1=>exact Kd.C_below HR0.out HB3.out);(case t2=>exact HC0.out);(case t3=>exact Kd.C_below HR1.out HB3.out);(case t4=>exact HC1.out);rintro e w5 ⟨vb,rfl,ho,hb⟩;have HCB:=Aside0.mk (Kd.R_reads ho);have HB5:=Aside0.mk (below_step HB3.out hb);obtain⟨Ab,cb,rfl⟩:=Kd.R_slice ho;clear ho hb hx0 hx1))
      have HRB:=Aside0.mk (show Kd.C (Kd.int .i64) w5 Ab (blkL l0_0 l0_1).length (blkL l0_0 l0_1) by obtain⟨A_,c_,e_,_,hc_⟩:=HCB.out;injection e_ with e1_ e2_ e3_;rw [e1_];exact hc_)
      clear HCB
      have HLEN:=Aside0.mk (blkL_length l0_0 l0_1)
      have HLEN2:=Aside0.mk (blkN_len l0_1 HSM.out)
      go_loopg [17,5] ((blkL l0_0 l0_1).length+1) (fun kq v17 v5 W=> ∃i m:Nat,v17= .int .i64 i∧v5= .int .i64 ((blkC l0_0 l0_1 a1.toNat i:Nat):Int)∧Aside0 (i+kq=(blkL l0_0 l0_1).length+1)∧Aside0 (i≤(blkL l0_0 l0_1).length)∧W=w5.drewN m)
      case atStart=>exact⟨0,0,rfl,by simp [blkC],⟨by omega⟩,⟨by omega⟩,rfl⟩
      case round =>
        obtain⟨i,m,rfl,rfl,HK,HK2,rfl⟩:=hrel
        cases gk with
        |zero=>exact absurd HK.out (by have:=HK2.out;omega)
        |succ kn=>
        obtain⟨cn,hcn⟩: ∃cn:Nat,cn=blkC l0_0 l0_1 a1.toNat i:=⟨_,rfl⟩
        rw [← hcn]
        have HCN:=Aside0.mk hcn
        have HCL:=Aside0.mk (show cn≤i by rw [hcn];exact blkC_le _ _ _ _)
        clear hcn
        by_cases hlt:i<(blkL l0_0 l0_1).length
        · have hlt' : decide (i < (blkL l0_0 l0_1).length) = true := decide_eq_true hlt
          have HLT:=Aside0.mk hlt
          obtain⟨ad,e,hx⟩:=ints_cell HRB.out i (by omega) (by omega)
          subst e
          rw [Int.toNat_natCast,blkL_at] at hx
          obtain⟨q,hq⟩: ∃q:Nat,q=(blkN l0_0 l0_1).getD i 0:=⟨_,rfl⟩
          rw [← hq] at hx
          have p1:(i<(blkL l0_0 l0_1).length)=True:=eq_true hlt
          have HH:=Aside0.mk (has_in q (by rw [hq];exact blkN_lt HSM.out i) Ia1.out.1 (by have:=Ia1.out.2;have:=HSM.out;omega))
          have HS:=Aside0.mk (blkC_succ l0_0 l0_1 a1.toNat (i:=i) (by rw [← HLEN.out];exact hlt))
          have HQ:=Aside0.mk hq
          clear hlt hq
          cases ht:q.testBit a1.toNat with
          | true =>
            have HT:=Aside0.mk ht
            clear ht
            go_wp2_with (go_at_call 88;(with_reducible refine(impl_has.calls _ _ _ _ HH.out).mono ?_);rintro e w' ⟨he,⟨⟨nd,rfl⟩⟩⟩;rw [HT.out] at he;subst he)
            go_roundg kn
            case measure=>omega
            case rel=>exact⟨i+1,_,zq306,by rw [HS.out,← HQ.out,HT.out,if_pos rfl,← HCN.out];first|go_num|(rw [wrap_small (by omega) (by have:=HCL.out;have:=HLT.out;have:=HLEN.out;have:=HLEN2.out;omega)];go_num),⟨by have:=HK.out;omega⟩,⟨by have:=HLT.out;omega⟩,rfl⟩
          | false =>
            have HT:=Aside0.mk ht
            clear ht
            go_wp2_with (go_at_call 88;(with_reducible refine(impl_has.calls _ _ _ _ HH.out).mono ?_);rintro e w' ⟨he,⟨⟨nd,rfl⟩⟩⟩;rw [HT.out] at he;subst he)
            go_roundg kn
            case measure=>omega
            case rel=>exact⟨i+1,_,zq306,by rw [HS.out,← HQ.out,HT.out,if_neg (by simp),← HCN.out];rfl,⟨by have:=HK.out;omega⟩,⟨by have:=HLT.out;omega⟩,rfl⟩
        · have hlt' : decide (i < (blkL l0_0 l0_1).length) = false := decide_eq_false hlt
          obtain rfl:i=(blkL l0_0 l0_1).length:=by have:=HK2.out;omega
          clear hlt
          obtain rfl:cn=(blkN l0_0 l0_1).countP fun s=>s.testBit a1.toNat:=by rw [HCN.out];unfold blkC;rw [blkL_length,List.take_length]
          go_wp2_with fail
          go_ret
          exact⟨rfl,by repeat(first|exact HB5.out|apply pw_below_drewN|apply below_drew1)⟩
def keepT (U : List (List Int)) (N : List Int) (a b : Int) : Bool := (at2 U a.toNat b.toNat == 0) || (orI U a (andI U b (notI N a)) == b)
def keepB (U : List (List Int)) (N : List Int) : Bool := allN U.length fun a => allN U.length fun b => keepT U N a b
set_option maxHeartbeats 4000000 in
set_option maxRecDepth 100000 in
theorem keeps_c1 (g : Nat) (U : List (List Int)) (N : List Int) (v : Adr) (w : World) (L : Logic U N) (hV : View w g U N v) (gG : Nat) (a b : Int) (ia : In U a) (ib : In U b) (hG : w.heap[gG]? = some (.cells #[.pointer (some ⟨g, 0, none⟩)] 67 (0, 0))) :
    Calls Try.prog 82 #[.int .i64 a,.int .i64 b,.pointer (some ⟨gG,0,none⟩)] w fun e w'=>e= .returned (.bool (keepT U N a b))∧Below w.heap.size w w':=by
  have hu70:=Try.underlying74
  have HV:=Aside0.mk hV
  have HLg:=Aside0.mk L
  have Ia:=Aside0.mk ia
  have Ib:=Aside0.mk ib
  have x1:w.cell? ⟨gG,0,none⟩=some (.pointer (some ⟨g,0,none⟩)):=(blk_cell hG 0).trans rfl
  clear hV L ia ib hG
  have b0_:=eq_true Ia.out.1;have c0_:=eq_true Ia.out.2
  have b1_:=eq_true Ib.out.1;have c1_:=eq_true Ib.out.2
  have hf0_:=HV.out.f0
  have r3_:=HV.out.u a Ia.out
  have s4_:=HV.out.u2 a b Ia.out Ib.out
  have hf3_:=HV.out.f3
  have n6_:=HV.out.n a Ia.out
  have IN1_:=Aside0.mk (HLg.out.in_not Ia.out)
  have b7_:=eq_true IN1_.out.1;have c7_:=eq_true IN1_.out.2
  have hf1_:=HV.out.f1
  have r9_:=HV.out.m b Ib.out
  have s10_:=HV.out.m2 b (notI N a) Ib.out IN1_.out
  have IN2_:=Aside0.mk (HLg.out.in_and Ib.out IN1_.out)
  have b11_:=eq_true IN2_.out.1;have c11_:=eq_true IN2_.out.2
  have hf2_:=HV.out.f2
  have r13_:=HV.out.j a Ia.out
  have s14_:=HV.out.j2 a (andI U b (notI N a)) Ia.out IN2_.out
  unfold keepT
  cases hq:(at2 U a.toNat b.toNat==0) with
  | true =>
    rw [Bool.true_or]
    go_enter Try.func82,Try.ntmps82
    go_wp2_with fail
    go_quiet (fail)
    go_wp2
    go_ret
    exact⟨rfl,by repeat(first|exact Below.refl _ _|apply pw_below_drewN|apply below_drew1)⟩
  | false =>
    rw [Bool.false_or]
    go_enter Try.func82,Try.ntmps82
    go_wp2_with fail
    go_quiet (fail)
    go_wp2
    go_ret
    exact⟨rfl,by repeat(first|exact Below.refl _ _|apply pw_below_drewN|apply below_drew1)⟩
def impl_KeepsOk.f (l0_0 : List (List Int)) (l0_1 : List Int) : Option (Bool) := some (if logicB l0_0 l0_1 = true then keepB l0_0 l0_1 else false)
set_option maxHeartbeats 4000000 in
theorem impl_KeepsOk.calls (A0_0 : Option Addr) (c0_0 : Nat) (l0_0 : List (List Int)) (A0_1 : Option Addr) (c0_1 : Nat) (l0_1 : List Int) (r : Bool) (w : World) (hr0_0 : Kd.C (Kd.slice 3 (Kd.int .i64)) w A0_0 l0_0.length l0_0) (hc0_0 : l0_0.length ≤ c0_0) (hr0_1 : Kd.C (Kd.int .i64) w A0_1 l0_1.length l0_1) (hc0_1 : l0_1.length ≤ c0_1) (h : impl_KeepsOk.f l0_0 l0_1 = some r) :
    Calls Try.prog 19 #[.agg #[.slice A0_0 l0_0.length c0_0,.slice A0_1 l0_1.length c0_1]] w fun e w'=>e= .returned (.bool r)∧Below w.heap.size w w':=by
  obtain⟨k,hF⟩:=told_facts l0_0
  have hu30:=Try.underlying26
  have hu70:=Try.underlying74
  have HF:=Aside0.mk hF
  have HR0:=Aside0.mk hr0_0
  have HC0:=Aside0.mk hc0_0
  have HR1:=Aside0.mk hr0_1
  have HC1:=Aside0.mk hc0_1
  simp only [impl_KeepsOk.f,Option.some.injEq] at h
  clear hr0_0 hc0_0 hr0_1 hc0_1 hF
  cases hL:logicB l0_0 l0_1 with
  | false =>
    rw [hL] at h
    have hr_:false=r:=by simpa using h
    subst hr_
    have HLB:=Aside0.mk hL
    clear h hL
    go_enter Try.func19,Try.ntmps19
    go_wp2_with (first|((with_reducible refine gate_dst (N:=1) rfl ?_);refine box_event ?hg (N:=1) ?hd (cs:= #[.slice A0_0 l0_0.length c0_0,.slice A0_1 l0_1.length c0_1]) (t:=26) ?hr ?_;(case hd=>rfl);(case hg=>rfl);(case hr=>first|(go_simp;done)|(go_simp;rfl));intro gb hg_ w1 hbox hb;have HB:=Aside0.mk hb;have hx0:w1.cell? ⟨gb,0,none⟩=some (.slice A0_0 l0_0.length c0_0):=(blk_cell hbox 0).trans rfl;have hx1:w1.cell? ⟨gb,1,none⟩=some (.slice A0_1 l0_1.length c0_1):=(blk_cell hbox 1).trans rfl;have HX:=Aside0.mk hbox;clear hbox hb hg_)|(go_at_call 70;(with_reducible refine(told_n k _ _ l0_0 _ _ l0_1 _ ?s1 ?s2 ?s3 ?s4 HF.out HLB.out).mono ?_);(case s1=>exact Kd.C_below HR0.out HB.out);(case s2=>exact HC0.out);(case s3=>exact Kd.C_below HR1.out HB.out);(case s4=>exact HC1.out);rintro e w2 ⟨rfl,hb⟩;have HB2:=Aside0.mk (below_step HB.out hb);clear hb hx0 hx1 HX HB))
    go_ret
    exact⟨rfl,zq233⟩
  | true =>
    rw [hL] at h
    have hr_:keepB l0_0 l0_1=r:=by simpa using h
    subst hr_
    have HLB:=Aside0.mk hL
    have HLg:=Aside0.mk (logicB_iff.1 hL)
    have HSM:=Aside0.mk (logicB_iff.1 hL).small
    clear h hL
    unfold keepB
    go_enter Try.func19,Try.ntmps19
    go_wp2_with (first|((with_reducible refine gate_dst (N:=1) rfl ?_);refine box_event ?hg (N:=1) ?hd (cs:= #[.slice A0_0 l0_0.length c0_0,.slice A0_1 l0_1.length c0_1]) (t:=26) ?hr ?_;(case hd=>rfl);(case hg=>rfl);(case hr=>first|(go_simp;done)|(go_simp;rfl));intro gb hg_ w1 hbox hb;have HB:=Aside0.mk hb;have hx0:w1.cell? ⟨gb,0,none⟩=some (.slice A0_0 l0_0.length c0_0):=(blk_cell hbox 0).trans rfl;have hx1:w1.cell? ⟨gb,1,none⟩=some (.slice A0_1 l0_1.length c0_1):=(blk_cell hbox 1).trans rfl;have HX:=Aside0.mk hbox;clear hbox hb hg_)|(go_at_call 70;(with_reducible refine(told_y k _ _ l0_0 _ _ l0_1 _ ?s1 ?s2 ?s3 ?s4 HF.out HLB.out).mono ?_);(case s1=>exact Kd.C_below HR0.out HB.out);(case s2=>exact HC0.out);(case s3=>exact Kd.C_below HR1.out HB.out);(case s4=>exact HC1.out);rintro e w2 ⟨g,v,rfl,hv,hge,hb⟩;have HB2:=Aside0.mk (below_step HB.out hb);have HV:=Aside0.mk hv;clear hv hge hb hx0 hx1 HX HB)|(go_at_call 71;(with_reducible refine(every_pure g l0_0 l0_1 v _ HSM.out ?sV 82 _ #[.pointer (some ⟨w2.heap.size,0,none⟩)] Try.func82 (by kernel_rfl) rfl (fun a b=>keepT l0_0 l0_1 a b) ?sT).mono ?_);(case sV=>exact View.alloc HV.out _);(case sT=>exact fun a b ha hb W hW=>keeps_c1 g l0_0 l0_1 v W HLg.out ((View.alloc HV.out _).below hW) w2.heap.size a b ⟨by omega,by omega⟩ ⟨by omega,by omega⟩ (blk_below (MapKept.heap_alloc w2 _).1 hW));rintro e w4 ⟨rfl,hb⟩;have HB4:=Aside0.mk (below_step (below_alloc HB2.out _) hb);clear hb))
    go_ret
    exact⟨rfl,zq344⟩
end Go.Proofs.Ytcbjpdaogicibaa.Print
end
section
namespace Go.Proofs.Ytcbjpdaogicibaa.Print
open Go.RowKit Go.Proofs.YtcbjpdaogicibaaW.PrintWords Go.Proofs.YtcbjpdaogicibaaW.PrintLast Go.Proofs.YtcbjpdaogicibaaW.PrintMore
def laws_FnBlocksWith.f (k : Nat) (l0 : List Int) : Option (Bool) := if (l0.length : Int) > 1048576 then (some true) else ((spec_DrawBlocksWith.f k l0).bind fun bt631 => ((impl_BlocksWith.f bt631.1 bt631.2.1 bt631.2.2).bind fun t639 => ((spec_BlocksWith.f k bt631.1 bt631.2.1 bt631.2.2).bind fun t640 => (if t639 = t640 then (if t639 < 0 then (if t639 = (-1) then ((laws_alive.f k).bind fun t641 => (some t641)) else (some false)) else (if t639 ≥ 1 then ((impl_KeepsOk.f bt631.1 bt631.2.1).bind fun t642 => (if t642 = true then ((impl_NotOf.f bt631.1 bt631.2.1 bt631.2.2).bind fun t643 => ((impl_BlocksWith.f bt631.1 bt631.2.1 t643).bind fun t644 => (if t644 = t639 then ((impl_NoOf.f bt631.1 bt631.2.1).bind fun t645 => ((impl_BlocksWith.f bt631.1 bt631.2.1 t645).bind fun t646 => ((impl_BlocksOf.f bt631.1 bt631.2.1).bind fun t647 => (some (t646 == (t647.length : Int)))))) else (some false)))) else ((impl_NoOf.f bt631.1 bt631.2.1).bind fun t650 => ((impl_BlocksWith.f bt631.1 bt631.2.1 t650).bind fun t651 => ((impl_BlocksOf.f bt631.1 bt631.2.1).bind fun t652 => (some (t651 == (t652.length : Int)))))))) else (some false))) else (some false)))))
def laws_FnBlocksWith.T9 : Bool × List (List Nat × List Nat) := (true, [([], []), ([0], [0]), ([1], [1]), ([2], [2]), ([3, 2, 2], [2, 3]), ([4, 2], [2, 4]), ([5, 4, 2], [2, 5]), ([6], [6]), ([6], [6]), ([6], [6]), ([8, 9, 6, 6], [6, 8, 9]), ([7, 10, 10, 6], [6, 7, 10]), ([6], [6]), ([11, 12, 6], [6, 11, 12]), ([6, 13, 2], [2, 6, 13]), ([2, 14], [2, 14]), ([15, 11], [15]), ([16], [16]), ([16], [16]), ([18, 16, 16], [16, 18]), ([17, 19, 19, 16], [16, 17, 19]), ([16], [16]), ([21, 20, 16], [16, 21]), ([22, 16], [16, 22]), ([20, 23, 16], [16, 20, 23]), ([16, 24], [16, 24]), ([25, 22, 0, 1, 2, 3, 4, 5, 6, 7, 8, 9, 10, 11, 12, 13, 14, 15, 16, 17, 18, 19, 20, 21, 22, 23, 24, 25], [25])])
def laws_FnBlocksWith.B9 : List Nat := [0, 1, 3, 7, 15, 31, 63, 127, 127, 127, 895, 2047, 127, 8191, 16383, 32767, 65535, 131071, 131071, 393215, 1048575, 131071, 4194303, 8388607, 16777215, 33554431, 67108863]
theorem laws_FnBlocksWith.tab9 : rtab .any (opsOf Try.f4 9) = laws_FnBlocksWith.T9 := by kernel_rfl
theorem laws_FnBlocksWith.bits9 : waitsOk laws_FnBlocksWith.T9.2 laws_FnBlocksWith.B9 = true := by kernel_rfl
set_option maxHeartbeats 8000000 in
set_option maxRecDepth 100000 in
theorem laws_FnBlocksWith.calls (k : Nat) (A0 : Option Addr) (c0 : Nat) (l0 : List Int) (r : Bool) (w : World) (hr0 : Kd.C (Kd.int .u8) w A0 l0.length l0) (hc0 : l0.length ≤ c0) (h : laws_FnBlocksWith.f k l0 = some r) :
  Calls Try.prog 4 #[.slice A0 l0.length c0] w fun e w' => e = .returned (.bool r) ∧ Below w.heap.size w w' := by
 have hu26:=Try.underlying26;have g1:=zqm hr0;have g0:=zqm hc0;clear hr0 hc0;have HB:=zqm (Below.refl w.heap.size w);have H:(if(l0.length:Int)>1048576 then(some true) else((spec_DrawBlocksWith.f k l0).bind fun a9=>((impl_BlocksWith.f a9.1 a9.2.1 a9.2.2).bind fun a7=>((spec_BlocksWith.f k a9.1 a9.2.1 a9.2.2).bind fun c5=>(if a7=c5 then(if a7<0 then(if a7=(-1) then((laws_alive.f k).bind fun f5=>(some f5)) else(some false)) else(if a7≥1 then((impl_KeepsOk.f a9.1 a9.2.1).bind fun f6=>(if f6=true then((impl_NotOf.f a9.1 a9.2.1 a9.2.2).bind fun c9=>((impl_BlocksWith.f a9.1 a9.2.1 c9).bind fun b5=>(if b5=a7 then((impl_NoOf.f a9.1 a9.2.1).bind fun c1=>((impl_BlocksWith.f a9.1 a9.2.1 c1).bind fun b7=>((impl_BlocksOf.f a9.1 a9.2.1).bind fun b6=>(some (b7==(b6.length:Int)))))) else(some false)))) else((impl_NoOf.f a9.1 a9.2.1).bind fun d6=>((impl_BlocksWith.f a9.1 a9.2.1 d6).bind fun d5=>((impl_BlocksOf.f a9.1 a9.2.1).bind fun d2=>(some (d5==(d2.length:Int)))))))) else(some false))) else(some false))))))=some r:=h;clear h
 by_cases c2:(l0.length:Int)>1048576
 ·rw [if_pos c2] at H;have k7:decide (1048576<(l0.length:Int))=true:=decide_eq_true c2;have k8:decide (1048576<l0.length)=true:=decide_eq_true (by omega);clear c2;obtain rfl:=Option.some.inj H
  go_enter Try.func4,Try.ntmps4
  go_wp2
  go_ret
  exact⟨zq11,zq0⟩
 ·rw [if_neg c2] at H;have k7:decide (1048576<(l0.length:Int))=false:=decide_eq_false c2;have k8:decide (1048576<l0.length)=false:=decide_eq_false (by omega);clear c2;replace H:=Option.bind_eq_some_iff.mp H;obtain⟨⟨a1,a2,a8⟩,g4,H⟩:=H;replace H:((impl_BlocksWith.f a1 a2 a8).bind fun a7=>((spec_BlocksWith.f k a1 a2 a8).bind fun c5=>(if a7=c5 then(if a7<0 then(if a7=(-1) then((laws_alive.f k).bind fun f5=>(some f5)) else(some false)) else(if a7≥1 then((impl_KeepsOk.f a1 a2).bind fun f6=>(if f6=true then((impl_NotOf.f a1 a2 a8).bind fun c9=>((impl_BlocksWith.f a1 a2 c9).bind fun b5=>(if b5=a7 then((impl_NoOf.f a1 a2).bind fun c1=>((impl_BlocksWith.f a1 a2 c1).bind fun b7=>((impl_BlocksOf.f a1 a2).bind fun b6=>(some (b7==(b6.length:Int)))))) else(some false)))) else((impl_NoOf.f a1 a2).bind fun d6=>((impl_BlocksWith.f a1 a2 d6).bind fun d5=>((impl_BlocksOf.f a1 a2).bind fun d2=>(some (d5==(d2.length:Int)))))))) else(some false))) else(some false))))=some r:=H;have A3:=zqm g4;clear g4;replace H:=Option.bind_eq_some_iff.mp H;obtain⟨a7,j0,H⟩:=H;replace H:((spec_BlocksWith.f k a1 a2 a8).bind fun c5=>(if a7=c5 then(if a7<0 then(if a7=(-1) then((laws_alive.f k).bind fun f5=>(some f5)) else(some false)) else(if a7≥1 then((impl_KeepsOk.f a1 a2).bind fun f6=>(if f6=true then((impl_NotOf.f a1 a2 a8).bind fun c9=>((impl_BlocksWith.f a1 a2 c9).bind fun b5=>(if b5=a7 then((impl_NoOf.f a1 a2).bind fun c1=>((impl_BlocksWith.f a1 a2 c1).bind fun b7=>((impl_BlocksOf.f a1 a2).bind fun b6=>(some (b7==(b6.length:Int)))))) else(some false)))) else((impl_NoOf.f a1 a2).bind fun d6=>((impl_BlocksWith.f a1 a2 d6).bind fun d5=>((impl_BlocksOf.f a1 a2).bind fun d2=>(some (d5==(d2.length:Int)))))))) else(some false))) else(some false)))=some r:=H;have A4:=zqm j0;clear j0;replace H:=Option.bind_eq_some_iff.mp H;obtain⟨c5,j1,H⟩:=H;replace H:(if a7=c5 then(if a7<0 then(if a7=(-1) then((laws_alive.f k).bind fun f5=>(some f5)) else(some false)) else(if a7≥1 then((impl_KeepsOk.f a1 a2).bind fun f6=>(if f6=true then((impl_NotOf.f a1 a2 a8).bind fun c9=>((impl_BlocksWith.f a1 a2 c9).bind fun b5=>(if b5=a7 then((impl_NoOf.f a1 a2).bind fun c1=>((impl_BlocksWith.f a1 a2 c1).bind fun b7=>((impl_BlocksOf.f a1 a2).bind fun b6=>(some (b7==(b6.length:Int)))))) else(some false)))) else((impl_NoOf.f a1 a2).bind fun d6=>((impl_BlocksWith.f a1 a2 d6).bind fun d5=>((impl_BlocksOf.f a1 a2).bind fun d2=>(some (d5==(d2.length:Int)))))))) else(some false))) else(some false))=some r:=H;have A5:=zqm j1;clear j1
  by_cases c6:a7=c5
  ·rw [if_pos c6] at H;have k9:(a7==c5)=true:=beq_iff_eq.mpr c6;have l1:(a7 !=c5)=false:=bne_eq_false_iff_eq.mpr c6;clear c6
   by_cases c7:a7<0
   ·rw [if_pos c7] at H;have l2:decide (a7<0)=true:=decide_eq_true c7;clear c7
    by_cases c8:a7=(-1)
    ·rw [if_pos c8] at H;have l3:(a7==(-1))=true:=beq_iff_eq.mpr c8;have l4:(a7 !=(-1))=false:=bne_eq_false_iff_eq.mpr c8;clear c8;replace H:=Option.bind_eq_some_iff.mp H;obtain⟨f5,j2,H⟩:=H;replace H:(some f5)=some r:=H;have A9:=zqm j2;clear j2;obtain rfl:=Option.some.inj H
     go_enter Try.func4,Try.ntmps4
     go_wp2_with (first|((with_reducible refine gate_callee (f:=22) rfl ?_);refine goesL_ (some 11) rfl rfl Try.func22 zqk rfl #[.slice A0 l0.length c0] rfl zq1 ?_;(with_reducible refine(spec_DrawBlocksWith.calls k _ _ l0 a1 a2 a8 _ ?side1 ?side2 A3.out).mono ?_);(case side1=> exact zq98);(case side2=>exact g0.out);rintro e u3 ⟨f8,f9,rfl,b4,d7,hb⟩;refine⟨_,rfl,?_⟩;have a4:=zqm (Kd.S_lower b4 (below_size zq0));have a3:=zqm (Kd.Q_lower d7 (below_size zq0));replace HB:=zqm (below_step zq0 hb);clear hb b4 d7)|((with_reducible refine gate_dst (N:=3) rfl ?_);(try(refine gate_guard (by rfl) ?_;dsimp only));refine box_event ?hg (N:=3) ?hd (cs:= #[.slice none 0 0,.slice none 0 0]) (t:=26) ?hr ?_;(case hd=>rfl);(case hg=>rfl);(case hr=>first|(go_simp;done)|(go_simp;rfl));intro a5 hg j3 hbox hb;replace a4:=zqm (Kd.S_below zq23 hb);replace a3:=zqm (Kd.Q_below zq46 hb);have d8:=zqm (below_step zq0 hb);have a0:=zqm (hbox);have f7:=zqm ((by rw [hg];exact(below_size zq0):w.heap.size≤a5));have a6:=zqm ((by rw [hg];exact(below_size zq0):w.heap.size≤a5));clear HB;have HB:=d8;clear d8 hb hbox hg;obtain⟨e1,d9,l5⟩:=Kd.S_slice a4.out;subst l5;have m9:j3.cell? ⟨a5,0,none⟩=some (.slice none 0 0):=(blk_cell a0.out 0).trans rfl;have n0:j3.cell? ⟨a5,1,none⟩=some (.slice none 0 0):=(blk_cell a0.out 1).trans rfl;have p7:=blk_frozen a0.out 0;have p8:=blk_frozen a0.out 1;obtain⟨e2,e0,l6,_⟩:=Kd.Q_slice a3.out;subst l6)|((with_reducible refine gate_callee (f:=23) rfl ?_);refine goesL_ (some 16) rfl rfl Try.func23 zqk rfl #[.agg #[.slice e1 a1.length d9,.slice e2 a2.length e0],.int .i64 a8] rfl zq1 ?_;(with_reducible refine(impl_BlocksWith.calls _ _ a1 _ _ a2 a8 a7 _ ?side1 ?side2 ?side3 ?side4 A4.out).mono ?_);(case side1=>refine(Kd.S_reads' (e:=24) (base:=w.heap.size) (ok:=fun k_=>some k_≠(.slice e2 a2.length e0:Value).ownBlock) (n:=a1.length) (c:=d9) ?_).2.2;exact zq212);(case side2=>exact(Kd.S_reads' a4.out).2.1);(case side3=>refine(Kd.Q_reads' (e:=3) (base:=w.heap.size) (ok:=fun k_=>True) (n:=a2.length) (c:=e0) ?_).2.2;exact zq170);(case side4=>exact(Kd.Q_reads' a3.out).2.1);rintro e j4 ⟨rfl,hb⟩;refine⟨_,rfl,?_⟩;replace a4:=zqm (Kd.S_below zq212 hb);replace a3:=zqm (Kd.Q_below zq170 hb);replace a0:=zqm (blk_below (g:=a5) (o:= .cells #[.slice e1 a1.length d9,.slice e2 a2.length e0] 26 (0,0)) (by(with_reducible repeat(first|refine blk_drewN ?_ _|refine blk_drew ?_|refine blk_alloc ?_ _));refine blk_put (cs:= #[.slice e1 a1.length d9,.slice none 0 0]) ?_ 1 _ rfl;(with_reducible repeat(first|refine blk_drewN ?_ _|refine blk_drew ?_|refine blk_alloc ?_ _));refine blk_put (cs:= #[.slice none 0 0,.slice none 0 0]) ?_ 0 _ rfl;(with_reducible repeat(first|refine blk_drewN ?_ _|refine blk_drew ?_|refine blk_alloc ?_ _));exact a0.out) hb);replace HB:=zqm (below_step zq3 hb);clear hb;have n1:j4.cell? ⟨a5,0,none⟩=some (.slice e1 a1.length d9):=(blk_cell a0.out 0).trans rfl;have n2:j4.cell? ⟨a5,1,none⟩=some (.slice e2 a2.length e0):=(blk_cell a0.out 1).trans rfl;have p9:=blk_frozen a0.out 0;have q0:=blk_frozen a0.out 1)|((with_reducible refine gate_callee (f:=24) rfl ?_);refine goesL_ (some 20) rfl rfl Try.func24 zqk rfl #[.agg #[.slice e1 a1.length d9,.slice e2 a2.length e0],.int .i64 a8] rfl zq1 ?_;(with_reducible refine(spec_BlocksWith.calls k _ _ a1 _ _ a2 a8 c5 _ ?side1 ?side2 ?side3 ?side4 A5.out).mono ?_);(case side1=> exact zq20);(case side2=>exact(Kd.S_reads' a4.out).2.1);(case side3=> exact zq37);(case side4=>exact(Kd.Q_reads' a3.out).2.1);rintro e u4 ⟨rfl,hb⟩;refine⟨_,rfl,?_⟩;replace a4:=zqm (Kd.S_below zq23 hb);replace a3:=zqm (Kd.Q_below zq46 hb);replace a0:=zqm (blk_below (g:=a5) (o:= .cells #[.slice e1 a1.length d9,.slice e2 a2.length e0] 26 (0,0)) zq2 hb);replace HB:=zqm (below_step zq3 hb);clear hb)|(go_at_call 18;(with_reducible refine(laws_alive.calls k f5 _ A9.out).mono ?_);rintro e u5 ⟨rfl,hb⟩;replace a4:=zqm (Kd.S_below zq23 hb);replace a3:=zqm (Kd.Q_below zq46 hb);replace a0:=zqm (blk_below (g:=a5) (o:= .cells #[.slice e1 a1.length d9,.slice e2 a2.length e0] 26 (0,0)) zq2 hb);replace HB:=zqm (below_step zq3 hb);clear hb))
     go_ret
     exact⟨zq11,zq3⟩
    ·rw [if_neg c8] at H;have l3:(a7==(-1))=false:=beq_eq_false_iff_ne.mpr c8;have l4:(a7 !=(-1))=true:=bne_iff_ne.mpr c8;obtain rfl:=Option.some.inj H
     go_enter Try.func4,Try.ntmps4
     go_wp2_with (first|((with_reducible refine gate_callee (f:=22) rfl ?_);refine goesL_ (some 11) rfl rfl Try.func22 zqk rfl #[.slice A0 l0.length c0] rfl zq1 ?_;(with_reducible refine(spec_DrawBlocksWith.calls k _ _ l0 a1 a2 a8 _ ?side1 ?side2 A3.out).mono ?_);(case side1=> exact zq98);(case side2=>exact g0.out);rintro e u6 ⟨f8,f9,rfl,b4,d7,hb⟩;refine⟨_,rfl,?_⟩;have a4:=zqm (Kd.S_lower b4 (below_size zq0));have a3:=zqm (Kd.Q_lower d7 (below_size zq0));replace HB:=zqm (below_step zq0 hb);clear hb b4 d7)|((with_reducible refine gate_dst (N:=3) rfl ?_);(try(refine gate_guard (by rfl) ?_;dsimp only));refine box_event ?hg (N:=3) ?hd (cs:= #[.slice none 0 0,.slice none 0 0]) (t:=26) ?hr ?_;(case hd=>rfl);(case hg=>rfl);(case hr=>first|(go_simp;done)|(go_simp;rfl));intro a5 hg j5 hbox hb;replace a4:=zqm (Kd.S_below zq23 hb);replace a3:=zqm (Kd.Q_below zq46 hb);have d8:=zqm (below_step zq0 hb);have a0:=zqm (hbox);have f7:=zqm ((by rw [hg];exact(below_size zq0):w.heap.size≤a5));have a6:=zqm ((by rw [hg];exact(below_size zq0):w.heap.size≤a5));clear HB;have HB:=d8;clear d8 hb hbox hg;obtain⟨e9,e3,l7⟩:=Kd.S_slice a4.out;subst l7;have n3:j5.cell? ⟨a5,0,none⟩=some (.slice none 0 0):=(blk_cell a0.out 0).trans rfl;have n4:j5.cell? ⟨a5,1,none⟩=some (.slice none 0 0):=(blk_cell a0.out 1).trans rfl;have q1:=blk_frozen a0.out 0;have q2:=blk_frozen a0.out 1;obtain⟨f0,e4,l8,_⟩:=Kd.Q_slice a3.out;subst l8)|((with_reducible refine gate_callee (f:=23) rfl ?_);refine goesL_ (some 16) rfl rfl Try.func23 zqk rfl #[.agg #[.slice e9 a1.length e3,.slice f0 a2.length e4],.int .i64 a8] rfl zq1 ?_;(with_reducible refine(impl_BlocksWith.calls _ _ a1 _ _ a2 a8 a7 _ ?side1 ?side2 ?side3 ?side4 A4.out).mono ?_);(case side1=>refine(Kd.S_reads' (e:=24) (base:=w.heap.size) (ok:=fun k_=>some k_≠(.slice f0 a2.length e4:Value).ownBlock) (n:=a1.length) (c:=e3) ?_).2.2;exact zq213);(case side2=>exact(Kd.S_reads' a4.out).2.1);(case side3=>refine(Kd.Q_reads' (e:=3) (base:=w.heap.size) (ok:=fun k_=>True) (n:=a2.length) (c:=e4) ?_).2.2;exact zq171);(case side4=>exact(Kd.Q_reads' a3.out).2.1);rintro e j6 ⟨rfl,hb⟩;refine⟨_,rfl,?_⟩;replace a4:=zqm (Kd.S_below zq213 hb);replace a3:=zqm (Kd.Q_below zq171 hb);replace a0:=zqm (blk_below (g:=a5) (o:= .cells #[.slice e9 a1.length e3,.slice f0 a2.length e4] 26 (0,0)) (by(with_reducible repeat(first|refine blk_drewN ?_ _|refine blk_drew ?_|refine blk_alloc ?_ _));refine blk_put (cs:= #[.slice e9 a1.length e3,.slice none 0 0]) ?_ 1 _ rfl;(with_reducible repeat(first|refine blk_drewN ?_ _|refine blk_drew ?_|refine blk_alloc ?_ _));refine blk_put (cs:= #[.slice none 0 0,.slice none 0 0]) ?_ 0 _ rfl;(with_reducible repeat(first|refine blk_drewN ?_ _|refine blk_drew ?_|refine blk_alloc ?_ _));exact a0.out) hb);replace HB:=zqm (below_step zq3 hb);clear hb;have n5:j6.cell? ⟨a5,0,none⟩=some (.slice e9 a1.length e3):=(blk_cell a0.out 0).trans rfl;have n6:j6.cell? ⟨a5,1,none⟩=some (.slice f0 a2.length e4):=(blk_cell a0.out 1).trans rfl;have q3:=blk_frozen a0.out 0;have q4:=blk_frozen a0.out 1)|((with_reducible refine gate_callee (f:=24) rfl ?_);refine goesL_ (some 20) rfl rfl Try.func24 zqk rfl #[.agg #[.slice e9 a1.length e3,.slice f0 a2.length e4],.int .i64 a8] rfl zq1 ?_;(with_reducible refine(spec_BlocksWith.calls k _ _ a1 _ _ a2 a8 c5 _ ?side1 ?side2 ?side3 ?side4 A5.out).mono ?_);(case side1=> exact zq20);(case side2=>exact(Kd.S_reads' a4.out).2.1);(case side3=> exact zq37);(case side4=>exact(Kd.Q_reads' a3.out).2.1);rintro e u7 ⟨rfl,hb⟩;refine⟨_,rfl,?_⟩;replace a4:=zqm (Kd.S_below zq23 hb);replace a3:=zqm (Kd.Q_below zq46 hb);replace a0:=zqm (blk_below (g:=a5) (o:= .cells #[.slice e9 a1.length e3,.slice f0 a2.length e4] 26 (0,0)) zq2 hb);replace HB:=zqm (below_step zq3 hb);clear hb))
     go_ret
     exact⟨zq11,zq3⟩
   ·rw [if_neg c7] at H;have l2:decide (a7<0)=false:=decide_eq_false c7;clear c7
    by_cases g3:a7≥1
    ·rw [if_pos g3] at H;have i6:decide (1≤a7)=true:=decide_eq_true g3;clear g3;replace H:=Option.bind_eq_some_iff.mp H;obtain⟨f6,h0,H⟩:=H;replace H:(if f6=true then((impl_NotOf.f a1 a2 a8).bind fun c9=>((impl_BlocksWith.f a1 a2 c9).bind fun b5=>(if b5=a7 then((impl_NoOf.f a1 a2).bind fun c1=>((impl_BlocksWith.f a1 a2 c1).bind fun b7=>((impl_BlocksOf.f a1 a2).bind fun b6=>(some (b7==(b6.length:Int)))))) else(some false)))) else((impl_NoOf.f a1 a2).bind fun d6=>((impl_BlocksWith.f a1 a2 d6).bind fun d5=>((impl_BlocksOf.f a1 a2).bind fun d2=>(some (d5==(d2.length:Int)))))))=some r:=H;have g9:=zqm h0;clear h0
     by_cases g8:f6=true
     ·subst g8;(have H1:((impl_NotOf.f a1 a2 a8).bind fun c9=>((impl_BlocksWith.f a1 a2 c9).bind fun b5=>(if b5=a7 then((impl_NoOf.f a1 a2).bind fun c1=>((impl_BlocksWith.f a1 a2 c1).bind fun b7=>((impl_BlocksOf.f a1 a2).bind fun b6=>(some (b7==(b6.length:Int)))))) else(some false))))=some r:=by rw [if_pos rfl] at H;exact H);clear H;have H:=H1;clear H1;replace H:=Option.bind_eq_some_iff.mp H;obtain⟨c9,h1,H⟩:=H;replace H:((impl_BlocksWith.f a1 a2 c9).bind fun b5=>(if b5=a7 then((impl_NoOf.f a1 a2).bind fun c1=>((impl_BlocksWith.f a1 a2 c1).bind fun b7=>((impl_BlocksOf.f a1 a2).bind fun b6=>(some (b7==(b6.length:Int)))))) else(some false)))=some r:=H;have g4:=zqm h1;clear h1;replace H:=Option.bind_eq_some_iff.mp H;obtain⟨b5,h2,H⟩:=H;replace H:(if b5=a7 then((impl_NoOf.f a1 a2).bind fun c1=>((impl_BlocksWith.f a1 a2 c1).bind fun b7=>((impl_BlocksOf.f a1 a2).bind fun b6=>(some (b7==(b6.length:Int)))))) else(some false))=some r:=H;have i9:=zqm h2;clear h2
      by_cases g2:b5=a7
      ·rw [if_pos g2] at H;have i7:(b5==a7)=true:=beq_iff_eq.mpr g2;have i8:(b5 !=a7)=false:=bne_eq_false_iff_eq.mpr g2;clear g2;replace H:=Option.bind_eq_some_iff.mp H;obtain⟨c1,h3,H⟩:=H;replace H:((impl_BlocksWith.f a1 a2 c1).bind fun b7=>((impl_BlocksOf.f a1 a2).bind fun b6=>(some (b7==(b6.length:Int)))))=some r:=H;have s7:=zqm h3;clear h3;replace H:=Option.bind_eq_some_iff.mp H;obtain⟨b7,h4,H⟩:=H;replace H:((impl_BlocksOf.f a1 a2).bind fun b6=>(some (b7==(b6.length:Int))))=some r:=H;have s8:=zqm h4;clear h4;replace H:=Option.bind_eq_some_iff.mp H;obtain⟨b6,h5,H⟩:=H;replace H:(some (b7==(b6.length:Int)))=some r:=H;have s9:=zqm h5;clear h5;obtain rfl:=Option.some.inj H
       go_enter Try.func4,Try.ntmps4
       (try go_wp2_with (first|((with_reducible refine gate_callee (f:=22) rfl ?_);refine goesL_ (some 11) rfl rfl Try.func22 zqk rfl #[.slice A0 l0.length c0] rfl zq1 ?_;(with_reducible refine(spec_DrawBlocksWith.calls k _ _ l0 a1 a2 a8 _ ?side1 ?side2 A3.out).mono ?_);(case side1=> exact zq98);(case side2=>exact g0.out);rintro e u9 ⟨f8,f9,rfl,b4,d7,hb⟩;refine⟨_,rfl,?_⟩;have a4:=zqm (Kd.S_lower b4 (below_size zq0));have a3:=zqm (Kd.Q_lower d7 (below_size zq0));replace HB:=zqm (below_step zq0 hb);clear hb b4 d7)|((with_reducible refine gate_dst (N:=3) rfl ?_);(try(refine gate_guard (by rfl) ?_;dsimp only));refine box_event ?hg (N:=3) ?hd (cs:= #[.slice none 0 0,.slice none 0 0]) (t:=26) ?hr ?_;(case hd=>rfl);(case hg=>rfl);(case hr=>first|(go_simp;done)|(go_simp;rfl));intro a5 hg j7 hbox hb;replace a4:=zqm (Kd.S_below zq23 hb);replace a3:=zqm (Kd.Q_below zq46 hb);have d8:=zqm (below_step zq0 hb);have a0:=zqm (hbox);have f7:=zqm ((by rw [hg];exact(below_size zq0):w.heap.size≤a5));have a6:=zqm ((by rw [hg];exact(below_size zq0):w.heap.size≤a5));clear HB;have HB:=d8;clear d8 hb hbox hg;obtain⟨b2,b0,l9⟩:=Kd.S_slice a4.out;subst l9;have n7:j7.cell? ⟨a5,0,none⟩=some (.slice none 0 0):=(blk_cell a0.out 0).trans rfl;have n8:j7.cell? ⟨a5,1,none⟩=some (.slice none 0 0):=(blk_cell a0.out 1).trans rfl;have q5:=blk_frozen a0.out 0;have q6:=blk_frozen a0.out 1;obtain⟨b3,b1,m0,_⟩:=Kd.Q_slice a3.out;subst m0)|((with_reducible refine gate_callee (f:=23) rfl ?_);refine goesL_ (some 16) rfl rfl Try.func23 zqk rfl #[.agg #[.slice b2 a1.length b0,.slice b3 a2.length b1],.int .i64 a8] rfl zq1 ?_;(with_reducible refine(impl_BlocksWith.calls _ _ a1 _ _ a2 a8 a7 _ ?side1 ?side2 ?side3 ?side4 A4.out).mono ?_);(case side1=>refine(Kd.S_reads' (e:=24) (base:=w.heap.size) (ok:=fun k_=>some k_≠(.slice b3 a2.length b1:Value).ownBlock) (n:=a1.length) (c:=b0) ?_).2.2;exact zq209);(case side2=>exact(Kd.S_reads' a4.out).2.1);(case side3=>refine(Kd.Q_reads' (e:=3) (base:=w.heap.size) (ok:=fun k_=>True) (n:=a2.length) (c:=b1) ?_).2.2;exact zq167);(case side4=>exact(Kd.Q_reads' a3.out).2.1);rintro e j8 ⟨rfl,hb⟩;refine⟨_,rfl,?_⟩;replace a4:=zqm (Kd.S_below zq209 hb);replace a3:=zqm (Kd.Q_below zq167 hb);replace a0:=zqm (blk_below (g:=a5) (o:= .cells #[.slice b2 a1.length b0,.slice b3 a2.length b1] 26 (0,0)) (by(with_reducible repeat(first|refine blk_drewN ?_ _|refine blk_drew ?_|refine blk_alloc ?_ _));refine blk_put (cs:= #[.slice b2 a1.length b0,.slice none 0 0]) ?_ 1 _ rfl;(with_reducible repeat(first|refine blk_drewN ?_ _|refine blk_drew ?_|refine blk_alloc ?_ _));refine blk_put (cs:= #[.slice none 0 0,.slice none 0 0]) ?_ 0 _ rfl;(with_reducible repeat(first|refine blk_drewN ?_ _|refine blk_drew ?_|refine blk_alloc ?_ _));exact a0.out) hb);replace HB:=zqm (below_step zq3 hb);clear hb;have n9:j8.cell? ⟨a5,0,none⟩=some (.slice b2 a1.length b0):=(blk_cell a0.out 0).trans rfl;have o0:j8.cell? ⟨a5,1,none⟩=some (.slice b3 a2.length b1):=(blk_cell a0.out 1).trans rfl;have q7:=blk_frozen a0.out 0;have q8:=blk_frozen a0.out 1)|((with_reducible refine gate_callee (f:=24) rfl ?_);refine goesL_ (some 20) rfl rfl Try.func24 zqk rfl #[.agg #[.slice b2 a1.length b0,.slice b3 a2.length b1],.int .i64 a8] rfl zq1 ?_;(with_reducible refine(spec_BlocksWith.calls k _ _ a1 _ _ a2 a8 c5 _ ?side1 ?side2 ?side3 ?side4 A5.out).mono ?_);(case side1=> exact zq20);(case side2=>exact(Kd.S_reads' a4.out).2.1);(case side3=> exact zq37);(case side4=>exact(Kd.Q_reads' a3.out).2.1);rintro e t3 ⟨rfl,hb⟩;refine⟨_,rfl,?_⟩;replace a4:=zqm (Kd.S_below zq23 hb);replace a3:=zqm (Kd.Q_below zq46 hb);replace a0:=zqm (blk_below (g:=a5) (o:= .cells #[.slice b2 a1.length b0,.slice b3 a2.length b1] 26 (0,0)) zq2 hb);replace HB:=zqm (below_step zq3 hb);clear hb)))
       replace a4:=zqm (Kd.S_drew a4.out);replace a3:=zqm (Kd.Q_drew a3.out);replace a0:=zqm (blk_drew a0.out);replace HB:=zqm (below_drew1 HB.out);refine start_ (n:=27) (S:=fun w'=>w'.cell? ⟨a5,0,none⟩=some (.slice b2 a1.length b0)∧w'.cell? ⟨a5,1,none⟩=some (.slice b3 a2.length b1)) (ds:= []) (zqb 27 0) zqk rfl rfl ⟨(blk_cell a0.out 0).trans rfl,(blk_cell a0.out 1).trans rfl⟩ (fun hHeld=>?_);refine with_tabW laws_FnBlocksWith.tab9 laws_FnBlocksWith.bits9 (fun HT_ HW_=>?_);generalize t3.drew=v0 at a4 a3 a0 HB hHeld ⊢;refine pure_ (i:=0) (N:=some 29) (v:=?_) (a':=?_) (zqb 27 1) rfl rfl (any_of HT_.out zqk) (fun _ _ _ h=>h) (Or.inl ⟨by rfl,?_⟩) ?_ ?_;rotate_left
       ·exact zqt
       rotate_left
       ·exact zqs
       refine pure_ (i:=1) (N:=some 30) (v:=?_) (a':=?_) (zqb 27 3) rfl rfl (any_of HT_.out zqk) (fun _ _ _ h=>h) (Or.inl ⟨by rfl,?_⟩) ?_ ?_;rotate_left
       ·exact zqt
       rotate_left
       ·exact zqs
       refine pure_ (i:=2) (N:=some 31) (v:=?_) (a':=?_) (zqb 27 7) rfl rfl (any_of HT_.out zqk) (fun _ _ _ h=>h) (Or.inl ⟨by rfl,?_⟩) ?_ ?_;rotate_left
       ·exact zqt
       rotate_left
       ·exact zqs
       refine take_ (i:=3) (N:=some 32) (v:=?_) (a':=?_) (zqb 27 15) rfl rfl (take_ofW HT_.out HW_.out zqk) (fun _ _ _ h=>h) (Or.inl ⟨by rfl,?_⟩) hHeld ?_ ?_;rotate_left
       ·rintro w' ⟨s0,s1⟩;go_simp;with_reducible rfl
       rotate_left
       ·exact zqs
       refine one_ (i:=4) (N:=some 33) (zqb 27 31) rfl rfl (one_of HT_.out zqk) (by decide) (fun K hK=>?_);refine goes_ Try.func19 zqk rfl #[.agg #[.slice b2 a1.length b0,.slice b3 a2.length b1]] (by rfl) rfl rfl zq1 ?_;(with_reducible refine(impl_KeepsOk.calls _ _ a1 _ _ a2 true _ ?side1 ?side2 ?side3 ?side4 g9.out).mono ?_);(case side1=> exact zq20);(case side2=>exact(Kd.S_reads' a4.out).2.1);(case side3=> exact zq37);(case side4=>exact(Kd.Q_reads' a3.out).2.1);rintro e v1 ⟨rfl,hb⟩;refine⟨_,rfl,?_⟩;replace a4:=zqm (Kd.S_below zq23 hb);replace a3:=zqm (Kd.Q_below zq46 hb);replace a0:=zqm (blk_below (g:=a5) (o:= .cells #[.slice b2 a1.length b0,.slice b3 a2.length b1] 26 (0,0)) zq2 hb);replace HB:=zqm (below_step zq3 hb);clear hb;refine hK.out _ _ ⟨(blk_cell a0.out 0).trans rfl,(blk_cell a0.out 1).trans rfl⟩ (fun hHeld=>?_);clear hK K;refine norm_ (a':=?_) ?_ ?_;rotate_left
       ·show Act.put _ (some 33) _=_;exact zqs
       refine pure_ (i:=5) (N:=some 34) (v:=?_) (a':=?_) (zqb 27 63) rfl rfl (any_of HT_.out zqk) (fun _ _ _ h=>h) (Or.inl ⟨by rfl,?_⟩) ?_ ?_;rotate_left
       ·exact zqt
       rotate_left
       ·exact zqs
       refine pure_ (i:=6) (N:=some 35) (v:=?_) (a':=?_) (zqb 27 127) rfl rfl (any_of HT_.out zqk) (fun _ _ _ h=>h) (Or.inl ⟨by rfl,?_⟩) ?_ ?_;rotate_left
       ·exact zqt
       rotate_left
       ·exact zqs
       refine pure_ (i:=9) (N:=some 38) (v:=?_) (a':=?_) (zqb 27 639) rfl rfl (any_of HT_.out zqk) (fun _ _ _ h=>h) (Or.inl ⟨by rfl,?_⟩) ?_ ?_;rotate_left
       ·exact zqt
       rotate_left
       ·exact zqs
       refine pure_ (i:=12) (N:=some 41) (v:=?_) (a':=?_) (zqb 27 4735) rfl rfl (any_of HT_.out zqk) (fun _ _ _ h=>h) (Or.inl ⟨by rfl,?_⟩) ?_ ?_;rotate_left
       ·exact zqt
       rotate_left
       ·exact zqs
       refine take_ (i:=7) (N:=some 36) (v:=?_) (a':=?_) (zqb 27 4863) rfl rfl (take_ofW HT_.out HW_.out zqk) (fun _ _ _ h=>h) (Or.inl ⟨by rfl,?_⟩) hHeld ?_ ?_;rotate_left
       ·rintro w' ⟨s0,s1⟩;go_simp;with_reducible rfl
       rotate_left
       ·exact zqs
       refine take_ (i:=8) (N:=some 37) (v:=?_) (a':=?_) (zqb 27 5119) rfl rfl (take_ofW HT_.out HW_.out zqk) (fun _ _ _ h=>h) (Or.inl ⟨by rfl,?_⟩) hHeld ?_ ?_;rotate_left
       ·rintro w' ⟨s0,s1⟩;go_simp;with_reducible rfl
       rotate_left
       ·exact zqs
       refine one_ (i:=10) (N:=some 39) (zqb 27 6143) rfl rfl (one_of HT_.out zqk) (by decide) (fun K hK=>?_);refine goes_ Try.func25 zqk rfl #[.agg #[.slice b2 a1.length b0,.slice b3 a2.length b1],.int .i64 a8] (by rfl) rfl rfl zq1 ?_;(with_reducible refine(impl_NotOf.calls _ _ a1 _ _ a2 a8 c9 _ ?side1 ?side2 ?side3 ?side4 g4.out).mono ?_);(case side1=> exact zq20);(case side2=>exact(Kd.S_reads' a4.out).2.1);(case side3=> exact zq37);(case side4=>exact(Kd.Q_reads' a3.out).2.1);rintro e v2 ⟨rfl,hb⟩;refine⟨_,rfl,?_⟩;replace a4:=zqm (Kd.S_below zq23 hb);replace a3:=zqm (Kd.Q_below zq46 hb);replace a0:=zqm (blk_below (g:=a5) (o:= .cells #[.slice b2 a1.length b0,.slice b3 a2.length b1] 26 (0,0)) zq2 hb);replace HB:=zqm (below_step zq3 hb);clear hb;refine hK.out _ _ ⟨(blk_cell a0.out 0).trans rfl,(blk_cell a0.out 1).trans rfl⟩ (fun hHeld=>?_);clear hK K;refine norm_ (a':=?_) ?_ ?_;rotate_left
       ·show Act.put _ (some 39) _=_;exact zqs
       refine one_ (i:=11) (N:=some 40) (zqb 27 8191) rfl rfl (one_of HT_.out zqk) (by decide) (fun K hK=>?_);refine goes_ Try.func23 zqk rfl #[.agg #[.slice b2 a1.length b0,.slice b3 a2.length b1],.int .i64 c9] (by rfl) rfl rfl zq1 ?_;(with_reducible refine(impl_BlocksWith.calls _ _ a1 _ _ a2 c9 b5 _ ?side1 ?side2 ?side3 ?side4 i9.out).mono ?_);(case side1=> exact zq20);(case side2=>exact(Kd.S_reads' a4.out).2.1);(case side3=> exact zq37);(case side4=>exact(Kd.Q_reads' a3.out).2.1);rintro e v3 ⟨rfl,hb⟩;refine⟨_,rfl,?_⟩;replace a4:=zqm (Kd.S_below zq23 hb);replace a3:=zqm (Kd.Q_below zq46 hb);replace a0:=zqm (blk_below (g:=a5) (o:= .cells #[.slice b2 a1.length b0,.slice b3 a2.length b1] 26 (0,0)) zq2 hb);replace HB:=zqm (below_step zq3 hb);clear hb;refine hK.out _ _ ⟨(blk_cell a0.out 0).trans rfl,(blk_cell a0.out 1).trans rfl⟩ (fun hHeld=>?_);clear hK K;refine norm_ (a':=?_) ?_ ?_;rotate_left
       ·show Act.put _ (some 40) _=_;exact zqs
       refine pure_ (i:=13) (N:=some 42) (v:=?_) (a':=?_) (zqb 27 16383) rfl rfl (any_of HT_.out zqk) (fun _ _ _ h=>h) (Or.inl ⟨by rfl,?_⟩) ?_ ?_;rotate_left
       ·exact zqt
       rotate_left
       ·exact zqs
       refine pure_ (i:=14) (N:=some 43) (v:=?_) (a':=?_) (zqb 27 32767) rfl rfl (any_of HT_.out zqk) (fun _ _ _ h=>h) (Or.inl ⟨by rfl,?_⟩) ?_ ?_;rotate_left
       ·exact zqt
       rotate_left
       ·exact zqs
       refine pure_ (i:=15) (N:=some 44) (v:=?_) (a':=?_) (zqb 27 65535) rfl rfl (any_of HT_.out zqk) (fun _ _ _ h=>h) (Or.inl ⟨by rfl,?_⟩) ?_ ?_;rotate_left
       ·exact zqt
       rotate_left
       ·exact zqs
       refine pure_ (i:=16) (N:=some 45) (v:=?_) (a':=?_) (zqb 27 131071) rfl rfl (any_of HT_.out zqk) (fun _ _ _ h=>h) (Or.inl ⟨by rfl,?_⟩) ?_ ?_;rotate_left
       ·exact zqt
       rotate_left
       ·exact zqs
       refine take_ (i:=17) (N:=some 46) (v:=?_) (a':=?_) (zqb 27 262143) rfl rfl (take_ofW HT_.out HW_.out zqk) (fun _ _ _ h=>h) (Or.inl ⟨by rfl,?_⟩) hHeld ?_ ?_;rotate_left
       ·rintro w' ⟨s0,s1⟩;go_simp;with_reducible rfl
       rotate_left
       ·exact zqs
       refine take_ (i:=18) (N:=some 47) (v:=?_) (a':=?_) (zqb 27 524287) rfl rfl (take_ofW HT_.out HW_.out zqk) (fun _ _ _ h=>h) (Or.inl ⟨by rfl,?_⟩) hHeld ?_ ?_;rotate_left
       ·rintro w' ⟨s0,s1⟩;go_simp;with_reducible rfl
       rotate_left
       ·exact zqs
       refine take_ (i:=21) (N:=some 50) (v:=?_) (a':=?_) (zqb 27 2621439) rfl rfl (take_ofW HT_.out HW_.out zqk) (fun _ _ _ h=>h) (Or.inl ⟨by rfl,?_⟩) hHeld ?_ ?_;rotate_left
       ·rintro w' ⟨s0,s1⟩;go_simp;with_reducible rfl
       rotate_left
       ·exact zqs
       refine one_ (i:=19) (N:=some 48) (zqb 27 3145727) rfl rfl (one_of HT_.out zqk) (by decide) (fun K hK=>?_);refine goes_ Try.func26 zqk rfl #[.agg #[.slice b2 a1.length b0,.slice b3 a2.length b1]] (by rfl) rfl rfl zq1 ?_;(with_reducible refine(impl_NoOf.calls _ _ a1 _ _ a2 c1 _ ?side1 ?side2 ?side3 ?side4 s7.out).mono ?_);(case side1=> exact zq20);(case side2=>exact(Kd.S_reads' a4.out).2.1);(case side3=> exact zq37);(case side4=>exact(Kd.Q_reads' a3.out).2.1);rintro e v4 ⟨rfl,hb⟩;refine⟨_,rfl,?_⟩;replace a4:=zqm (Kd.S_below zq23 hb);replace a3:=zqm (Kd.Q_below zq46 hb);replace a0:=zqm (blk_below (g:=a5) (o:= .cells #[.slice b2 a1.length b0,.slice b3 a2.length b1] 26 (0,0)) zq2 hb);replace HB:=zqm (below_step zq3 hb);clear hb;refine hK.out _ _ ⟨(blk_cell a0.out 0).trans rfl,(blk_cell a0.out 1).trans rfl⟩ (fun hHeld=>?_);clear hK K;refine norm_ (a':=?_) ?_ ?_;rotate_left
       ·show Act.put _ (some 48) _=_;exact zqs
       refine one_ (i:=20) (N:=some 49) (zqb 27 4194303) rfl rfl (one_of HT_.out zqk) (by decide) (fun K hK=>?_);refine goes_ Try.func23 zqk rfl #[.agg #[.slice b2 a1.length b0,.slice b3 a2.length b1],.int .i64 c1] (by rfl) rfl rfl zq1 ?_;(with_reducible refine(impl_BlocksWith.calls _ _ a1 _ _ a2 c1 b7 _ ?side1 ?side2 ?side3 ?side4 s8.out).mono ?_);(case side1=> exact zq20);(case side2=>exact(Kd.S_reads' a4.out).2.1);(case side3=> exact zq37);(case side4=>exact(Kd.Q_reads' a3.out).2.1);rintro e v5 ⟨rfl,hb⟩;refine⟨_,rfl,?_⟩;replace a4:=zqm (Kd.S_below zq23 hb);replace a3:=zqm (Kd.Q_below zq46 hb);replace a0:=zqm (blk_below (g:=a5) (o:= .cells #[.slice b2 a1.length b0,.slice b3 a2.length b1] 26 (0,0)) zq2 hb);replace HB:=zqm (below_step zq3 hb);clear hb;refine hK.out _ _ ⟨(blk_cell a0.out 0).trans rfl,(blk_cell a0.out 1).trans rfl⟩ (fun hHeld=>?_);clear hK K;refine norm_ (a':=?_) ?_ ?_;rotate_left
       ·show Act.put _ (some 49) _=_;exact zqs
       refine one_ (i:=22) (N:=some 51) (zqb 27 8388607) rfl rfl (one_of HT_.out zqk) (by decide) (fun K hK=>?_);refine goes_ Try.func20 zqk rfl #[.agg #[.slice b2 a1.length b0,.slice b3 a2.length b1]] (by rfl) rfl rfl zq1 ?_;(with_reducible refine(impl_BlocksOf.calls _ _ a1 _ _ a2 b6 _ ?side1 ?side2 ?side3 ?side4 s9.out).mono ?_);(case side1=> exact zq20);(case side2=>exact(Kd.S_reads' a4.out).2.1);(case side3=> exact zq37);(case side4=>exact(Kd.Q_reads' a3.out).2.1);rintro e v6 ⟨u1,rfl,b4,hb⟩;refine⟨_,rfl,?_⟩;replace a4:=zqm (Kd.S_elder' zq23 (Kd.R_base b4) hb);have g7:=zqm (Kd.Q_elder' zq46 (Kd.R_base b4) hb);have i4:=zqm (Kd.R_lower (Kd.R_new' b4 (Kd.Q_lt zq46)) (below_size zq3));replace a0:=zqm (blk_below (g:=a5) (o:= .cells #[.slice b2 a1.length b0,.slice b3 a2.length b1] 26 (0,0)) zq2 hb);replace HB:=zqm (below_step zq3 hb);clear a3;have a3:=g7;clear g7 hb b4;obtain⟨t7,t9,h9⟩:=Kd.R_slice i4.out;(first|subst h9|(injection h9 with g5 i1 g6;have i2:=g5.symm;have i3:=g6.symm;clear g5 i1 g6;subst i2;subst i3));refine hK.out _ _ ⟨(blk_cell a0.out 0).trans rfl,(blk_cell a0.out 1).trans rfl⟩ (fun hHeld=>?_);clear hK K;refine norm_ (a':=?_) ?_ ?_;rotate_left
       ·show Act.put _ (some 51) _=_;exact zqs
       refine pure_ (i:=23) (N:=some 52) (v:=?_) (a':=?_) (zqb 27 16777215) rfl rfl (any_of HT_.out zqk) (fun _ _ _ h=>h) (Or.inl ⟨by rfl,?_⟩) ?_ ?_;rotate_left
       ·exact zqt
       rotate_left
       ·exact zqs
       refine pure_ (i:=24) (N:=some 53) (v:=?_) (a':=?_) (zqb 27 33554431) rfl rfl (any_of HT_.out zqk) (fun _ _ _ h=>h) (Or.inl ⟨by rfl,?_⟩) ?_ ?_;rotate_left
       ·exact zqt
       rotate_left
       ·exact zqs
       refine pure_ (i:=25) (N:=some 54) (v:=?_) (a':=?_) (zqb 27 67108863) rfl rfl (any_of HT_.out zqk) (fun _ _ _ h=>h) (Or.inl ⟨by rfl,?_⟩) ?_ ?_;rotate_left
       ·exact zqt
       rotate_left
       ·exact zqs
       refine pure_ (i:=26) (N:=some 2) (v:=?_) (a':=?_) (zqb 27 134217727) rfl rfl (any_of HT_.out zqk) (fun _ _ _ h=>h) (Or.inl ⟨by rfl,?_⟩) ?_ ?_;rotate_left
       ·exact zqt
       rotate_left
       ·exact zqs
       refine done_ (done_of HT_.out zqk) ?_;try go_wp2
       go_ret
       exact⟨zq11,zq3⟩
      ·rw [if_neg g2] at H;have i7:(b5==a7)=false:=beq_eq_false_iff_ne.mpr g2;have i8:(b5 !=a7)=true:=bne_iff_ne.mpr g2;obtain rfl:=Option.some.inj H
       go_enter Try.func4,Try.ntmps4
       (try go_wp2_with (first|((with_reducible refine gate_callee (f:=22) rfl ?_);refine goesL_ (some 11) rfl rfl Try.func22 zqk rfl #[.slice A0 l0.length c0] rfl zq1 ?_;(with_reducible refine(spec_DrawBlocksWith.calls k _ _ l0 a1 a2 a8 _ ?side1 ?side2 A3.out).mono ?_);(case side1=> exact zq98);(case side2=>exact g0.out);rintro e v7 ⟨f8,f9,rfl,b4,d7,hb⟩;refine⟨_,rfl,?_⟩;have a4:=zqm (Kd.S_lower b4 (below_size zq0));have a3:=zqm (Kd.Q_lower d7 (below_size zq0));replace HB:=zqm (below_step zq0 hb);clear hb b4 d7)|((with_reducible refine gate_dst (N:=3) rfl ?_);(try(refine gate_guard (by rfl) ?_;dsimp only));refine box_event ?hg (N:=3) ?hd (cs:= #[.slice none 0 0,.slice none 0 0]) (t:=26) ?hr ?_;(case hd=>rfl);(case hg=>rfl);(case hr=>first|(go_simp;done)|(go_simp;rfl));intro a5 hg j9 hbox hb;replace a4:=zqm (Kd.S_below zq23 hb);replace a3:=zqm (Kd.Q_below zq46 hb);have d8:=zqm (below_step zq0 hb);have a0:=zqm (hbox);have f7:=zqm ((by rw [hg];exact(below_size zq0):w.heap.size≤a5));have a6:=zqm ((by rw [hg];exact(below_size zq0):w.heap.size≤a5));clear HB;have HB:=d8;clear d8 hb hbox hg;obtain⟨d3,d0,m1⟩:=Kd.S_slice a4.out;subst m1;have o1:j9.cell? ⟨a5,0,none⟩=some (.slice none 0 0):=(blk_cell a0.out 0).trans rfl;have o2:j9.cell? ⟨a5,1,none⟩=some (.slice none 0 0):=(blk_cell a0.out 1).trans rfl;have q9:=blk_frozen a0.out 0;have r0:=blk_frozen a0.out 1;obtain⟨d4,d1,m2,_⟩:=Kd.Q_slice a3.out;subst m2)|((with_reducible refine gate_callee (f:=23) rfl ?_);refine goesL_ (some 16) rfl rfl Try.func23 zqk rfl #[.agg #[.slice d3 a1.length d0,.slice d4 a2.length d1],.int .i64 a8] rfl zq1 ?_;(with_reducible refine(impl_BlocksWith.calls _ _ a1 _ _ a2 a8 a7 _ ?side1 ?side2 ?side3 ?side4 A4.out).mono ?_);(case side1=>refine(Kd.S_reads' (e:=24) (base:=w.heap.size) (ok:=fun k_=>some k_≠(.slice d4 a2.length d1:Value).ownBlock) (n:=a1.length) (c:=d0) ?_).2.2;exact zq211);(case side2=>exact(Kd.S_reads' a4.out).2.1);(case side3=>refine(Kd.Q_reads' (e:=3) (base:=w.heap.size) (ok:=fun k_=>True) (n:=a2.length) (c:=d1) ?_).2.2;exact zq169);(case side4=>exact(Kd.Q_reads' a3.out).2.1);rintro e k0 ⟨rfl,hb⟩;refine⟨_,rfl,?_⟩;replace a4:=zqm (Kd.S_below zq211 hb);replace a3:=zqm (Kd.Q_below zq169 hb);replace a0:=zqm (blk_below (g:=a5) (o:= .cells #[.slice d3 a1.length d0,.slice d4 a2.length d1] 26 (0,0)) (by(with_reducible repeat(first|refine blk_drewN ?_ _|refine blk_drew ?_|refine blk_alloc ?_ _));refine blk_put (cs:= #[.slice d3 a1.length d0,.slice none 0 0]) ?_ 1 _ rfl;(with_reducible repeat(first|refine blk_drewN ?_ _|refine blk_drew ?_|refine blk_alloc ?_ _));refine blk_put (cs:= #[.slice none 0 0,.slice none 0 0]) ?_ 0 _ rfl;(with_reducible repeat(first|refine blk_drewN ?_ _|refine blk_drew ?_|refine blk_alloc ?_ _));exact a0.out) hb);replace HB:=zqm (below_step zq3 hb);clear hb;have o3:k0.cell? ⟨a5,0,none⟩=some (.slice d3 a1.length d0):=(blk_cell a0.out 0).trans rfl;have o4:k0.cell? ⟨a5,1,none⟩=some (.slice d4 a2.length d1):=(blk_cell a0.out 1).trans rfl;have r1:=blk_frozen a0.out 0;have r2:=blk_frozen a0.out 1)|((with_reducible refine gate_callee (f:=24) rfl ?_);refine goesL_ (some 20) rfl rfl Try.func24 zqk rfl #[.agg #[.slice d3 a1.length d0,.slice d4 a2.length d1],.int .i64 a8] rfl zq1 ?_;(with_reducible refine(spec_BlocksWith.calls k _ _ a1 _ _ a2 a8 c5 _ ?side1 ?side2 ?side3 ?side4 A5.out).mono ?_);(case side1=> exact zq20);(case side2=>exact(Kd.S_reads' a4.out).2.1);(case side3=> exact zq37);(case side4=>exact(Kd.Q_reads' a3.out).2.1);rintro e t4 ⟨rfl,hb⟩;refine⟨_,rfl,?_⟩;replace a4:=zqm (Kd.S_below zq23 hb);replace a3:=zqm (Kd.Q_below zq46 hb);replace a0:=zqm (blk_below (g:=a5) (o:= .cells #[.slice d3 a1.length d0,.slice d4 a2.length d1] 26 (0,0)) zq2 hb);replace HB:=zqm (below_step zq3 hb);clear hb)))
       replace a4:=zqm (Kd.S_drew a4.out);replace a3:=zqm (Kd.Q_drew a3.out);replace a0:=zqm (blk_drew a0.out);replace HB:=zqm (below_drew1 HB.out);refine start_ (n:=27) (S:=fun w'=>w'.cell? ⟨a5,0,none⟩=some (.slice d3 a1.length d0)∧w'.cell? ⟨a5,1,none⟩=some (.slice d4 a2.length d1)) (ds:= []) (zqb 27 0) zqk rfl rfl ⟨(blk_cell a0.out 0).trans rfl,(blk_cell a0.out 1).trans rfl⟩ (fun hHeld=>?_);refine with_tabW laws_FnBlocksWith.tab9 laws_FnBlocksWith.bits9 (fun HT_ HW_=>?_);generalize t4.drew=v8 at a4 a3 a0 HB hHeld ⊢;refine pure_ (i:=0) (N:=some 29) (v:=?_) (a':=?_) (zqb 27 1) rfl rfl (any_of HT_.out zqk) (fun _ _ _ h=>h) (Or.inl ⟨by rfl,?_⟩) ?_ ?_;rotate_left
       ·exact zqt
       rotate_left
       ·exact zqs
       refine pure_ (i:=1) (N:=some 30) (v:=?_) (a':=?_) (zqb 27 3) rfl rfl (any_of HT_.out zqk) (fun _ _ _ h=>h) (Or.inl ⟨by rfl,?_⟩) ?_ ?_;rotate_left
       ·exact zqt
       rotate_left
       ·exact zqs
       refine pure_ (i:=2) (N:=some 31) (v:=?_) (a':=?_) (zqb 27 7) rfl rfl (any_of HT_.out zqk) (fun _ _ _ h=>h) (Or.inl ⟨by rfl,?_⟩) ?_ ?_;rotate_left
       ·exact zqt
       rotate_left
       ·exact zqs
       refine take_ (i:=3) (N:=some 32) (v:=?_) (a':=?_) (zqb 27 15) rfl rfl (take_ofW HT_.out HW_.out zqk) (fun _ _ _ h=>h) (Or.inl ⟨by rfl,?_⟩) hHeld ?_ ?_;rotate_left
       ·rintro w' ⟨s0,s1⟩;go_simp;with_reducible rfl
       rotate_left
       ·exact zqs
       refine one_ (i:=4) (N:=some 33) (zqb 27 31) rfl rfl (one_of HT_.out zqk) (by decide) (fun K hK=>?_);refine goes_ Try.func19 zqk rfl #[.agg #[.slice d3 a1.length d0,.slice d4 a2.length d1]] (by rfl) rfl rfl zq1 ?_;(with_reducible refine(impl_KeepsOk.calls _ _ a1 _ _ a2 true _ ?side1 ?side2 ?side3 ?side4 g9.out).mono ?_);(case side1=> exact zq20);(case side2=>exact(Kd.S_reads' a4.out).2.1);(case side3=> exact zq37);(case side4=>exact(Kd.Q_reads' a3.out).2.1);rintro e v9 ⟨rfl,hb⟩;refine⟨_,rfl,?_⟩;replace a4:=zqm (Kd.S_below zq23 hb);replace a3:=zqm (Kd.Q_below zq46 hb);replace a0:=zqm (blk_below (g:=a5) (o:= .cells #[.slice d3 a1.length d0,.slice d4 a2.length d1] 26 (0,0)) zq2 hb);replace HB:=zqm (below_step zq3 hb);clear hb;refine hK.out _ _ ⟨(blk_cell a0.out 0).trans rfl,(blk_cell a0.out 1).trans rfl⟩ (fun hHeld=>?_);clear hK K;refine norm_ (a':=?_) ?_ ?_;rotate_left
       ·show Act.put _ (some 33) _=_;exact zqs
       refine pure_ (i:=5) (N:=some 34) (v:=?_) (a':=?_) (zqb 27 63) rfl rfl (any_of HT_.out zqk) (fun _ _ _ h=>h) (Or.inl ⟨by rfl,?_⟩) ?_ ?_;rotate_left
       ·exact zqt
       rotate_left
       ·exact zqs
       refine pure_ (i:=6) (N:=some 35) (v:=?_) (a':=?_) (zqb 27 127) rfl rfl (any_of HT_.out zqk) (fun _ _ _ h=>h) (Or.inl ⟨by rfl,?_⟩) ?_ ?_;rotate_left
       ·exact zqt
       rotate_left
       ·exact zqs
       refine pure_ (i:=9) (N:=some 38) (v:=?_) (a':=?_) (zqb 27 639) rfl rfl (any_of HT_.out zqk) (fun _ _ _ h=>h) (Or.inl ⟨by rfl,?_⟩) ?_ ?_;rotate_left
       ·exact zqt
       rotate_left
       ·exact zqs
       refine pure_ (i:=12) (N:=some 41) (v:=?_) (a':=?_) (zqb 27 4735) rfl rfl (any_of HT_.out zqk) (fun _ _ _ h=>h) (Or.inl ⟨by rfl,?_⟩) ?_ ?_;rotate_left
       ·exact zqt
       rotate_left
       ·exact zqs
       refine take_ (i:=7) (N:=some 36) (v:=?_) (a':=?_) (zqb 27 4863) rfl rfl (take_ofW HT_.out HW_.out zqk) (fun _ _ _ h=>h) (Or.inl ⟨by rfl,?_⟩) hHeld ?_ ?_;rotate_left
       ·rintro w' ⟨s0,s1⟩;go_simp;with_reducible rfl
       rotate_left
       ·exact zqs
       refine take_ (i:=8) (N:=some 37) (v:=?_) (a':=?_) (zqb 27 5119) rfl rfl (take_ofW HT_.out HW_.out zqk) (fun _ _ _ h=>h) (Or.inl ⟨by rfl,?_⟩) hHeld ?_ ?_;rotate_left
       ·rintro w' ⟨s0,s1⟩;go_simp;with_reducible rfl
       rotate_left
       ·exact zqs
       refine one_ (i:=10) (N:=some 39) (zqb 27 6143) rfl rfl (one_of HT_.out zqk) (by decide) (fun K hK=>?_);refine goes_ Try.func25 zqk rfl #[.agg #[.slice d3 a1.length d0,.slice d4 a2.length d1],.int .i64 a8] (by rfl) rfl rfl zq1 ?_;(with_reducible refine(impl_NotOf.calls _ _ a1 _ _ a2 a8 c9 _ ?side1 ?side2 ?side3 ?side4 g4.out).mono ?_);(case side1=> exact zq20);(case side2=>exact(Kd.S_reads' a4.out).2.1);(case side3=> exact zq37);(case side4=>exact(Kd.Q_reads' a3.out).2.1);rintro e w0 ⟨rfl,hb⟩;refine⟨_,rfl,?_⟩;replace a4:=zqm (Kd.S_below zq23 hb);replace a3:=zqm (Kd.Q_below zq46 hb);replace a0:=zqm (blk_below (g:=a5) (o:= .cells #[.slice d3 a1.length d0,.slice d4 a2.length d1] 26 (0,0)) zq2 hb);replace HB:=zqm (below_step zq3 hb);clear hb;refine hK.out _ _ ⟨(blk_cell a0.out 0).trans rfl,(blk_cell a0.out 1).trans rfl⟩ (fun hHeld=>?_);clear hK K;refine norm_ (a':=?_) ?_ ?_;rotate_left
       ·show Act.put _ (some 39) _=_;exact zqs
       refine one_ (i:=11) (N:=some 40) (zqb 27 8191) rfl rfl (one_of HT_.out zqk) (by decide) (fun K hK=>?_);refine goes_ Try.func23 zqk rfl #[.agg #[.slice d3 a1.length d0,.slice d4 a2.length d1],.int .i64 c9] (by rfl) rfl rfl zq1 ?_;(with_reducible refine(impl_BlocksWith.calls _ _ a1 _ _ a2 c9 b5 _ ?side1 ?side2 ?side3 ?side4 i9.out).mono ?_);(case side1=> exact zq20);(case side2=>exact(Kd.S_reads' a4.out).2.1);(case side3=> exact zq37);(case side4=>exact(Kd.Q_reads' a3.out).2.1);rintro e w1 ⟨rfl,hb⟩;refine⟨_,rfl,?_⟩;replace a4:=zqm (Kd.S_below zq23 hb);replace a3:=zqm (Kd.Q_below zq46 hb);replace a0:=zqm (blk_below (g:=a5) (o:= .cells #[.slice d3 a1.length d0,.slice d4 a2.length d1] 26 (0,0)) zq2 hb);replace HB:=zqm (below_step zq3 hb);clear hb;refine hK.out _ _ ⟨(blk_cell a0.out 0).trans rfl,(blk_cell a0.out 1).trans rfl⟩ (fun hHeld=>?_);clear hK K;refine norm_ (a':=?_) ?_ ?_;rotate_left
       ·show Act.put _ (some 40) _=_;exact zqs
       refine pure_ (i:=13) (N:=some 42) (v:=?_) (a':=?_) (zqb 27 16383) rfl rfl (any_of HT_.out zqk) (fun _ _ _ h=>h) (Or.inl ⟨by rfl,?_⟩) ?_ ?_;rotate_left
       ·exact zqt
       rotate_left
       ·exact zqs
       refine pure_ (i:=14) (N:=some 43) (v:=?_) (a':=?_) (zqb 27 32767) rfl rfl (any_of HT_.out zqk) (fun _ _ _ h=>h) (Or.inl ⟨by rfl,?_⟩) ?_ ?_;rotate_left
       ·exact zqt
       rotate_left
       ·exact zqs
       refine pure_ (i:=15) (N:=some 44) (v:=?_) (a':=?_) (zqb 27 65535) rfl rfl (any_of HT_.out zqk) (fun _ _ _ h=>h) (Or.inl ⟨by rfl,?_⟩) ?_ ?_;rotate_left
       ·exact zqt
       rotate_left
       ·exact zqs
       refine pure_ (i:=16) (N:=some 45) (v:=?_) (a':=?_) (zqb 27 131071) rfl rfl (any_of HT_.out zqk) (fun _ _ _ h=>h) (Or.inl ⟨by rfl,?_⟩) ?_ ?_;rotate_left
       ·exact zqt
       rotate_left
       ·exact zqs
       refine pure_ (i:=17) (N:=some 46) (v:=undef) (a':=?_) (zqb 27 262143) rfl rfl (any_of HT_.out zqk) (fun _ _ _ h=>h) (Or.inr ⟨by rfl,rfl⟩) ?_ ?_;rotate_left
       ·exact zqs
       refine pure_ (i:=18) (N:=some 47) (v:=undef) (a':=?_) (zqb 27 524287) rfl rfl (any_of HT_.out zqk) (fun _ _ _ h=>h) (Or.inr ⟨by rfl,rfl⟩) ?_ ?_;rotate_left
       ·exact zqs
       refine pure_ (i:=19) (N:=some 48) (v:=undef) (a':=?_) (zqb 27 1048575) rfl rfl (any_of HT_.out zqk) (fun _ _ _ h=>h) (Or.inr ⟨by rfl,rfl⟩) ?_ ?_;rotate_left
       ·exact zqs
       refine pure_ (i:=20) (N:=some 49) (v:=undef) (a':=?_) (zqb 27 2097151) rfl rfl (any_of HT_.out zqk) (fun _ _ _ h=>h) (Or.inr ⟨by rfl,rfl⟩) ?_ ?_;rotate_left
       ·exact zqs
       refine pure_ (i:=21) (N:=some 50) (v:=undef) (a':=?_) (zqb 27 4194303) rfl rfl (any_of HT_.out zqk) (fun _ _ _ h=>h) (Or.inr ⟨by rfl,rfl⟩) ?_ ?_;rotate_left
       ·exact zqs
       refine pure_ (i:=22) (N:=some 51) (v:=undef) (a':=?_) (zqb 27 8388607) rfl rfl (any_of HT_.out zqk) (fun _ _ _ h=>h) (Or.inr ⟨by rfl,rfl⟩) ?_ ?_;rotate_left
       ·exact zqs
       refine pure_ (i:=23) (N:=some 52) (v:=undef) (a':=?_) (zqb 27 16777215) rfl rfl (any_of HT_.out zqk) (fun _ _ _ h=>h) (Or.inr ⟨by rfl,rfl⟩) ?_ ?_;rotate_left
       ·exact zqs
       refine pure_ (i:=24) (N:=some 53) (v:=undef) (a':=?_) (zqb 27 33554431) rfl rfl (any_of HT_.out zqk) (fun _ _ _ h=>h) (Or.inr ⟨by rfl,rfl⟩) ?_ ?_;rotate_left
       ·exact zqs
       refine pure_ (i:=25) (N:=some 54) (v:=?_) (a':=?_) (zqb 27 67108863) rfl rfl (any_of HT_.out zqk) (fun _ _ _ h=>h) (Or.inl ⟨by rfl,?_⟩) ?_ ?_;rotate_left
       ·exact zqt
       rotate_left
       ·exact zqs
       refine pure_ (i:=26) (N:=some 2) (v:=?_) (a':=?_) (zqb 27 134217727) rfl rfl (any_of HT_.out zqk) (fun _ _ _ h=>h) (Or.inl ⟨by rfl,?_⟩) ?_ ?_;rotate_left
       ·exact zqt
       rotate_left
       ·exact zqs
       refine done_ (done_of HT_.out zqk) ?_;try go_wp2
       go_ret
       exact⟨zq11,zq3⟩
     ·replace g8:=Bool.eq_false_iff.mpr g8;subst g8;(have H1:((impl_NoOf.f a1 a2).bind fun d6=>((impl_BlocksWith.f a1 a2 d6).bind fun d5=>((impl_BlocksOf.f a1 a2).bind fun d2=>(some (d5==(d2.length:Int))))))=some r:=by rw [if_neg (show¬(false=true) by decide)] at H;exact H);clear H;have H:=H1;clear H1;replace H:=Option.bind_eq_some_iff.mp H;obtain⟨d6,h6,H⟩:=H;replace H:((impl_BlocksWith.f a1 a2 d6).bind fun d5=>((impl_BlocksOf.f a1 a2).bind fun d2=>(some (d5==(d2.length:Int)))))=some r:=H;have t0:=zqm h6;clear h6;replace H:=Option.bind_eq_some_iff.mp H;obtain⟨d5,h7,H⟩:=H;replace H:((impl_BlocksOf.f a1 a2).bind fun d2=>(some (d5==(d2.length:Int))))=some r:=H;have t1:=zqm h7;clear h7;replace H:=Option.bind_eq_some_iff.mp H;obtain⟨d2,h8,H⟩:=H;replace H:(some (d5==(d2.length:Int)))=some r:=H;have t2:=zqm h8;clear h8;obtain rfl:=Option.some.inj H
      go_enter Try.func4,Try.ntmps4
      (try go_wp2_with (first|((with_reducible refine gate_callee (f:=22) rfl ?_);refine goesL_ (some 11) rfl rfl Try.func22 zqk rfl #[.slice A0 l0.length c0] rfl zq1 ?_;(with_reducible refine(spec_DrawBlocksWith.calls k _ _ l0 a1 a2 a8 _ ?side1 ?side2 A3.out).mono ?_);(case side1=> exact zq98);(case side2=>exact g0.out);rintro e w2 ⟨f8,f9,rfl,b4,d7,hb⟩;refine⟨_,rfl,?_⟩;have a4:=zqm (Kd.S_lower b4 (below_size zq0));have a3:=zqm (Kd.Q_lower d7 (below_size zq0));replace HB:=zqm (below_step zq0 hb);clear hb b4 d7)|((with_reducible refine gate_dst (N:=3) rfl ?_);(try(refine gate_guard (by rfl) ?_;dsimp only));refine box_event ?hg (N:=3) ?hd (cs:= #[.slice none 0 0,.slice none 0 0]) (t:=26) ?hr ?_;(case hd=>rfl);(case hg=>rfl);(case hr=>first|(go_simp;done)|(go_simp;rfl));intro a5 hg k1 hbox hb;replace a4:=zqm (Kd.S_below zq23 hb);replace a3:=zqm (Kd.Q_below zq46 hb);have d8:=zqm (below_step zq0 hb);have a0:=zqm (hbox);have f7:=zqm ((by rw [hg];exact(below_size zq0):w.heap.size≤a5));have a6:=zqm ((by rw [hg];exact(below_size zq0):w.heap.size≤a5));clear HB;have HB:=d8;clear d8 hb hbox hg;obtain⟨c3,b8,m3⟩:=Kd.S_slice a4.out;subst m3;have o5:k1.cell? ⟨a5,0,none⟩=some (.slice none 0 0):=(blk_cell a0.out 0).trans rfl;have o6:k1.cell? ⟨a5,1,none⟩=some (.slice none 0 0):=(blk_cell a0.out 1).trans rfl;have r3:=blk_frozen a0.out 0;have r4:=blk_frozen a0.out 1;obtain⟨c4,b9,m4,_⟩:=Kd.Q_slice a3.out;subst m4)|((with_reducible refine gate_callee (f:=23) rfl ?_);refine goesL_ (some 16) rfl rfl Try.func23 zqk rfl #[.agg #[.slice c3 a1.length b8,.slice c4 a2.length b9],.int .i64 a8] rfl zq1 ?_;(with_reducible refine(impl_BlocksWith.calls _ _ a1 _ _ a2 a8 a7 _ ?side1 ?side2 ?side3 ?side4 A4.out).mono ?_);(case side1=>refine(Kd.S_reads' (e:=24) (base:=w.heap.size) (ok:=fun k_=>some k_≠(.slice c4 a2.length b9:Value).ownBlock) (n:=a1.length) (c:=b8) ?_).2.2;exact zq210);(case side2=>exact(Kd.S_reads' a4.out).2.1);(case side3=>refine(Kd.Q_reads' (e:=3) (base:=w.heap.size) (ok:=fun k_=>True) (n:=a2.length) (c:=b9) ?_).2.2;exact zq168);(case side4=>exact(Kd.Q_reads' a3.out).2.1);rintro e k2 ⟨rfl,hb⟩;refine⟨_,rfl,?_⟩;replace a4:=zqm (Kd.S_below zq210 hb);replace a3:=zqm (Kd.Q_below zq168 hb);replace a0:=zqm (blk_below (g:=a5) (o:= .cells #[.slice c3 a1.length b8,.slice c4 a2.length b9] 26 (0,0)) (by(with_reducible repeat(first|refine blk_drewN ?_ _|refine blk_drew ?_|refine blk_alloc ?_ _));refine blk_put (cs:= #[.slice c3 a1.length b8,.slice none 0 0]) ?_ 1 _ rfl;(with_reducible repeat(first|refine blk_drewN ?_ _|refine blk_drew ?_|refine blk_alloc ?_ _));refine blk_put (cs:= #[.slice none 0 0,.slice none 0 0]) ?_ 0 _ rfl;(with_reducible repeat(first|refine blk_drewN ?_ _|refine blk_drew ?_|refine blk_alloc ?_ _));exact a0.out) hb);replace HB:=zqm (below_step zq3 hb);clear hb;have o7:k2.cell? ⟨a5,0,none⟩=some (.slice c3 a1.length b8):=(blk_cell a0.out 0).trans rfl;have o8:k2.cell? ⟨a5,1,none⟩=some (.slice c4 a2.length b9):=(blk_cell a0.out 1).trans rfl;have r5:=blk_frozen a0.out 0;have r6:=blk_frozen a0.out 1)|((with_reducible refine gate_callee (f:=24) rfl ?_);refine goesL_ (some 20) rfl rfl Try.func24 zqk rfl #[.agg #[.slice c3 a1.length b8,.slice c4 a2.length b9],.int .i64 a8] rfl zq1 ?_;(with_reducible refine(spec_BlocksWith.calls k _ _ a1 _ _ a2 a8 c5 _ ?side1 ?side2 ?side3 ?side4 A5.out).mono ?_);(case side1=> exact zq20);(case side2=>exact(Kd.S_reads' a4.out).2.1);(case side3=> exact zq37);(case side4=>exact(Kd.Q_reads' a3.out).2.1);rintro e t5 ⟨rfl,hb⟩;refine⟨_,rfl,?_⟩;replace a4:=zqm (Kd.S_below zq23 hb);replace a3:=zqm (Kd.Q_below zq46 hb);replace a0:=zqm (blk_below (g:=a5) (o:= .cells #[.slice c3 a1.length b8,.slice c4 a2.length b9] 26 (0,0)) zq2 hb);replace HB:=zqm (below_step zq3 hb);clear hb)))
      replace a4:=zqm (Kd.S_drew a4.out);replace a3:=zqm (Kd.Q_drew a3.out);replace a0:=zqm (blk_drew a0.out);replace HB:=zqm (below_drew1 HB.out);refine start_ (n:=27) (S:=fun w'=>w'.cell? ⟨a5,0,none⟩=some (.slice c3 a1.length b8)∧w'.cell? ⟨a5,1,none⟩=some (.slice c4 a2.length b9)) (ds:= []) (zqb 27 0) zqk rfl rfl ⟨(blk_cell a0.out 0).trans rfl,(blk_cell a0.out 1).trans rfl⟩ (fun hHeld=>?_);refine with_tabW laws_FnBlocksWith.tab9 laws_FnBlocksWith.bits9 (fun HT_ HW_=>?_);generalize t5.drew=w3 at a4 a3 a0 HB hHeld ⊢;refine pure_ (i:=0) (N:=some 29) (v:=?_) (a':=?_) (zqb 27 1) rfl rfl (any_of HT_.out zqk) (fun _ _ _ h=>h) (Or.inl ⟨by rfl,?_⟩) ?_ ?_;rotate_left
      ·exact zqt
      rotate_left
      ·exact zqs
      refine pure_ (i:=1) (N:=some 30) (v:=?_) (a':=?_) (zqb 27 3) rfl rfl (any_of HT_.out zqk) (fun _ _ _ h=>h) (Or.inl ⟨by rfl,?_⟩) ?_ ?_;rotate_left
      ·exact zqt
      rotate_left
      ·exact zqs
      refine pure_ (i:=2) (N:=some 31) (v:=?_) (a':=?_) (zqb 27 7) rfl rfl (any_of HT_.out zqk) (fun _ _ _ h=>h) (Or.inl ⟨by rfl,?_⟩) ?_ ?_;rotate_left
      ·exact zqt
      rotate_left
      ·exact zqs
      refine take_ (i:=3) (N:=some 32) (v:=?_) (a':=?_) (zqb 27 15) rfl rfl (take_ofW HT_.out HW_.out zqk) (fun _ _ _ h=>h) (Or.inl ⟨by rfl,?_⟩) hHeld ?_ ?_;rotate_left
      ·rintro w' ⟨s0,s1⟩;go_simp;with_reducible rfl
      rotate_left
      ·exact zqs
      refine one_ (i:=4) (N:=some 33) (zqb 27 31) rfl rfl (one_of HT_.out zqk) (by decide) (fun K hK=>?_);refine goes_ Try.func19 zqk rfl #[.agg #[.slice c3 a1.length b8,.slice c4 a2.length b9]] (by rfl) rfl rfl zq1 ?_;(with_reducible refine(impl_KeepsOk.calls _ _ a1 _ _ a2 false _ ?side1 ?side2 ?side3 ?side4 g9.out).mono ?_);(case side1=> exact zq20);(case side2=>exact(Kd.S_reads' a4.out).2.1);(case side3=> exact zq37);(case side4=>exact(Kd.Q_reads' a3.out).2.1);rintro e w4 ⟨rfl,hb⟩;refine⟨_,rfl,?_⟩;replace a4:=zqm (Kd.S_below zq23 hb);replace a3:=zqm (Kd.Q_below zq46 hb);replace a0:=zqm (blk_below (g:=a5) (o:= .cells #[.slice c3 a1.length b8,.slice c4 a2.length b9] 26 (0,0)) zq2 hb);replace HB:=zqm (below_step zq3 hb);clear hb;refine hK.out _ _ ⟨(blk_cell a0.out 0).trans rfl,(blk_cell a0.out 1).trans rfl⟩ (fun hHeld=>?_);clear hK K;refine norm_ (a':=?_) ?_ ?_;rotate_left
      ·show Act.put _ (some 33) _=_;exact zqs
      refine pure_ (i:=5) (N:=some 34) (v:=?_) (a':=?_) (zqb 27 63) rfl rfl (any_of HT_.out zqk) (fun _ _ _ h=>h) (Or.inl ⟨by rfl,?_⟩) ?_ ?_;rotate_left
      ·exact zqt
      rotate_left
      ·exact zqs
      refine pure_ (i:=6) (N:=some 35) (v:=?_) (a':=?_) (zqb 27 127) rfl rfl (any_of HT_.out zqk) (fun _ _ _ h=>h) (Or.inl ⟨by rfl,?_⟩) ?_ ?_;rotate_left
      ·exact zqt
      rotate_left
      ·exact zqs
      refine pure_ (i:=7) (N:=some 36) (v:=undef) (a':=?_) (zqb 27 255) rfl rfl (any_of HT_.out zqk) (fun _ _ _ h=>h) (Or.inr ⟨by rfl,rfl⟩) ?_ ?_;rotate_left
      ·exact zqs
      refine pure_ (i:=8) (N:=some 37) (v:=undef) (a':=?_) (zqb 27 511) rfl rfl (any_of HT_.out zqk) (fun _ _ _ h=>h) (Or.inr ⟨by rfl,rfl⟩) ?_ ?_;rotate_left
      ·exact zqs
      refine pure_ (i:=9) (N:=some 38) (v:=undef) (a':=?_) (zqb 27 1023) rfl rfl (any_of HT_.out zqk) (fun _ _ _ h=>h) (Or.inr ⟨by rfl,rfl⟩) ?_ ?_;rotate_left
      ·exact zqs
      refine pure_ (i:=10) (N:=some 39) (v:=undef) (a':=?_) (zqb 27 2047) rfl rfl (any_of HT_.out zqk) (fun _ _ _ h=>h) (Or.inr ⟨by rfl,rfl⟩) ?_ ?_;rotate_left
      ·exact zqs
      refine pure_ (i:=11) (N:=some 40) (v:=undef) (a':=?_) (zqb 27 4095) rfl rfl (any_of HT_.out zqk) (fun _ _ _ h=>h) (Or.inr ⟨by rfl,rfl⟩) ?_ ?_;rotate_left
      ·exact zqs
      refine pure_ (i:=12) (N:=some 41) (v:=undef) (a':=?_) (zqb 27 8191) rfl rfl (any_of HT_.out zqk) (fun _ _ _ h=>h) (Or.inr ⟨by rfl,rfl⟩) ?_ ?_;rotate_left
      ·exact zqs
      refine pure_ (i:=13) (N:=some 42) (v:=undef) (a':=?_) (zqb 27 16383) rfl rfl (any_of HT_.out zqk) (fun _ _ _ h=>h) (Or.inr ⟨by rfl,rfl⟩) ?_ ?_;rotate_left
      ·exact zqs
      refine pure_ (i:=14) (N:=some 43) (v:=?_) (a':=?_) (zqb 27 32767) rfl rfl (any_of HT_.out zqk) (fun _ _ _ h=>h) (Or.inl ⟨by rfl,?_⟩) ?_ ?_;rotate_left
      ·exact zqt
      rotate_left
      ·exact zqs
      refine pure_ (i:=15) (N:=some 44) (v:=?_) (a':=?_) (zqb 27 65535) rfl rfl (any_of HT_.out zqk) (fun _ _ _ h=>h) (Or.inl ⟨by rfl,?_⟩) ?_ ?_;rotate_left
      ·exact zqt
      rotate_left
      ·exact zqs
      refine pure_ (i:=16) (N:=some 45) (v:=?_) (a':=?_) (zqb 27 131071) rfl rfl (any_of HT_.out zqk) (fun _ _ _ h=>h) (Or.inl ⟨by rfl,?_⟩) ?_ ?_;rotate_left
      ·exact zqt
      rotate_left
      ·exact zqs
      refine take_ (i:=17) (N:=some 46) (v:=?_) (a':=?_) (zqb 27 262143) rfl rfl (take_ofW HT_.out HW_.out zqk) (fun _ _ _ h=>h) (Or.inl ⟨by rfl,?_⟩) hHeld ?_ ?_;rotate_left
      ·rintro w' ⟨s0,s1⟩;go_simp;with_reducible rfl
      rotate_left
      ·exact zqs
      refine take_ (i:=18) (N:=some 47) (v:=?_) (a':=?_) (zqb 27 524287) rfl rfl (take_ofW HT_.out HW_.out zqk) (fun _ _ _ h=>h) (Or.inl ⟨by rfl,?_⟩) hHeld ?_ ?_;rotate_left
      ·rintro w' ⟨s0,s1⟩;go_simp;with_reducible rfl
      rotate_left
      ·exact zqs
      refine take_ (i:=21) (N:=some 50) (v:=?_) (a':=?_) (zqb 27 2621439) rfl rfl (take_ofW HT_.out HW_.out zqk) (fun _ _ _ h=>h) (Or.inl ⟨by rfl,?_⟩) hHeld ?_ ?_;rotate_left
      ·rintro w' ⟨s0,s1⟩;go_simp;with_reducible rfl
      rotate_left
      ·exact zqs
      refine one_ (i:=19) (N:=some 48) (zqb 27 3145727) rfl rfl (one_of HT_.out zqk) (by decide) (fun K hK=>?_);refine goes_ Try.func26 zqk rfl #[.agg #[.slice c3 a1.length b8,.slice c4 a2.length b9]] (by rfl) rfl rfl zq1 ?_;(with_reducible refine(impl_NoOf.calls _ _ a1 _ _ a2 d6 _ ?side1 ?side2 ?side3 ?side4 t0.out).mono ?_);(case side1=> exact zq20);(case side2=>exact(Kd.S_reads' a4.out).2.1);(case side3=> exact zq37);(case side4=>exact(Kd.Q_reads' a3.out).2.1);rintro e w5 ⟨rfl,hb⟩;refine⟨_,rfl,?_⟩;replace a4:=zqm (Kd.S_below zq23 hb);replace a3:=zqm (Kd.Q_below zq46 hb);replace a0:=zqm (blk_below (g:=a5) (o:= .cells #[.slice c3 a1.length b8,.slice c4 a2.length b9] 26 (0,0)) zq2 hb);replace HB:=zqm (below_step zq3 hb);clear hb;refine hK.out _ _ ⟨(blk_cell a0.out 0).trans rfl,(blk_cell a0.out 1).trans rfl⟩ (fun hHeld=>?_);clear hK K;refine norm_ (a':=?_) ?_ ?_;rotate_left
      ·show Act.put _ (some 48) _=_;exact zqs
      refine one_ (i:=20) (N:=some 49) (zqb 27 4194303) rfl rfl (one_of HT_.out zqk) (by decide) (fun K hK=>?_);refine goes_ Try.func23 zqk rfl #[.agg #[.slice c3 a1.length b8,.slice c4 a2.length b9],.int .i64 d6] (by rfl) rfl rfl zq1 ?_;(with_reducible refine(impl_BlocksWith.calls _ _ a1 _ _ a2 d6 d5 _ ?side1 ?side2 ?side3 ?side4 t1.out).mono ?_);(case side1=> exact zq20);(case side2=>exact(Kd.S_reads' a4.out).2.1);(case side3=> exact zq37);(case side4=>exact(Kd.Q_reads' a3.out).2.1);rintro e w6 ⟨rfl,hb⟩;refine⟨_,rfl,?_⟩;replace a4:=zqm (Kd.S_below zq23 hb);replace a3:=zqm (Kd.Q_below zq46 hb);replace a0:=zqm (blk_below (g:=a5) (o:= .cells #[.slice c3 a1.length b8,.slice c4 a2.length b9] 26 (0,0)) zq2 hb);replace HB:=zqm (below_step zq3 hb);clear hb;refine hK.out _ _ ⟨(blk_cell a0.out 0).trans rfl,(blk_cell a0.out 1).trans rfl⟩ (fun hHeld=>?_);clear hK K;refine norm_ (a':=?_) ?_ ?_;rotate_left
      ·show Act.put _ (some 49) _=_;exact zqs
      refine one_ (i:=22) (N:=some 51) (zqb 27 8388607) rfl rfl (one_of HT_.out zqk) (by decide) (fun K hK=>?_);refine goes_ Try.func20 zqk rfl #[.agg #[.slice c3 a1.length b8,.slice c4 a2.length b9]] (by rfl) rfl rfl zq1 ?_;(with_reducible refine(impl_BlocksOf.calls _ _ a1 _ _ a2 d2 _ ?side1 ?side2 ?side3 ?side4 t2.out).mono ?_);(case side1=> exact zq20);(case side2=>exact(Kd.S_reads' a4.out).2.1);(case side3=> exact zq37);(case side4=>exact(Kd.Q_reads' a3.out).2.1);rintro e w7 ⟨u2,rfl,b4,hb⟩;refine⟨_,rfl,?_⟩;replace a4:=zqm (Kd.S_elder' zq23 (Kd.R_base b4) hb);have g7:=zqm (Kd.Q_elder' zq46 (Kd.R_base b4) hb);have i5:=zqm (Kd.R_lower (Kd.R_new' b4 (Kd.Q_lt zq46)) (below_size zq3));replace a0:=zqm (blk_below (g:=a5) (o:= .cells #[.slice c3 a1.length b8,.slice c4 a2.length b9] 26 (0,0)) zq2 hb);replace HB:=zqm (below_step zq3 hb);clear a3;have a3:=g7;clear g7 hb b4;obtain⟨t8,u0,i0⟩:=Kd.R_slice i5.out;(first|subst i0|(injection i0 with g5 i1 g6;have i2:=g5.symm;have i3:=g6.symm;clear g5 i1 g6;subst i2;subst i3));refine hK.out _ _ ⟨(blk_cell a0.out 0).trans rfl,(blk_cell a0.out 1).trans rfl⟩ (fun hHeld=>?_);clear hK K;refine norm_ (a':=?_) ?_ ?_;rotate_left
      ·show Act.put _ (some 51) _=_;exact zqs
      refine pure_ (i:=23) (N:=some 52) (v:=?_) (a':=?_) (zqb 27 16777215) rfl rfl (any_of HT_.out zqk) (fun _ _ _ h=>h) (Or.inl ⟨by rfl,?_⟩) ?_ ?_;rotate_left
      ·exact zqt
      rotate_left
      ·exact zqs
      refine pure_ (i:=24) (N:=some 53) (v:=?_) (a':=?_) (zqb 27 33554431) rfl rfl (any_of HT_.out zqk) (fun _ _ _ h=>h) (Or.inl ⟨by rfl,?_⟩) ?_ ?_;rotate_left
      ·exact zqt
      rotate_left
      ·exact zqs
      refine pure_ (i:=25) (N:=some 54) (v:=?_) (a':=?_) (zqb 27 67108863) rfl rfl (any_of HT_.out zqk) (fun _ _ _ h=>h) (Or.inl ⟨by rfl,?_⟩) ?_ ?_;rotate_left
      ·exact zqt
      rotate_left
      ·exact zqs
      refine pure_ (i:=26) (N:=some 2) (v:=?_) (a':=?_) (zqb 27 134217727) rfl rfl (any_of HT_.out zqk) (fun _ _ _ h=>h) (Or.inl ⟨by rfl,?_⟩) ?_ ?_;rotate_left
      ·exact zqt
      rotate_left
      ·exact zqs
      refine done_ (done_of HT_.out zqk) ?_;try go_wp2
      go_ret
      exact⟨zq11,zq3⟩
    ·rw [if_neg g3] at H;have i6:decide (1≤a7)=false:=decide_eq_false g3;clear g3;obtain rfl:=Option.some.inj H
     go_enter Try.func4,Try.ntmps4
     (try go_wp2_with (first|((with_reducible refine gate_callee (f:=22) rfl ?_);refine goesL_ (some 11) rfl rfl Try.func22 zqk rfl #[.slice A0 l0.length c0] rfl zq1 ?_;(with_reducible refine(spec_DrawBlocksWith.calls k _ _ l0 a1 a2 a8 _ ?side1 ?side2 A3.out).mono ?_);(case side1=> exact zq98);(case side2=>exact g0.out);rintro e w8 ⟨f8,f9,rfl,b4,d7,hb⟩;refine⟨_,rfl,?_⟩;have a4:=zqm (Kd.S_lower b4 (below_size zq0));have a3:=zqm (Kd.Q_lower d7 (below_size zq0));replace HB:=zqm (below_step zq0 hb);clear hb b4 d7)|((with_reducible refine gate_dst (N:=3) rfl ?_);(try(refine gate_guard (by rfl) ?_;dsimp only));refine box_event ?hg (N:=3) ?hd (cs:= #[.slice none 0 0,.slice none 0 0]) (t:=26) ?hr ?_;(case hd=>rfl);(case hg=>rfl);(case hr=>first|(go_simp;done)|(go_simp;rfl));intro a5 hg k3 hbox hb;replace a4:=zqm (Kd.S_below zq23 hb);replace a3:=zqm (Kd.Q_below zq46 hb);have d8:=zqm (below_step zq0 hb);have a0:=zqm (hbox);have f7:=zqm ((by rw [hg];exact(below_size zq0):w.heap.size≤a5));have a6:=zqm ((by rw [hg];exact(below_size zq0):w.heap.size≤a5));clear HB;have HB:=d8;clear d8 hb hbox hg;obtain⟨f1,e5,m5⟩:=Kd.S_slice a4.out;subst m5;have o9:k3.cell? ⟨a5,0,none⟩=some (.slice none 0 0):=(blk_cell a0.out 0).trans rfl;have p0:k3.cell? ⟨a5,1,none⟩=some (.slice none 0 0):=(blk_cell a0.out 1).trans rfl;have r7:=blk_frozen a0.out 0;have r8:=blk_frozen a0.out 1;obtain⟨f2,e6,m6,_⟩:=Kd.Q_slice a3.out;subst m6)|((with_reducible refine gate_callee (f:=23) rfl ?_);refine goesL_ (some 16) rfl rfl Try.func23 zqk rfl #[.agg #[.slice f1 a1.length e5,.slice f2 a2.length e6],.int .i64 a8] rfl zq1 ?_;(with_reducible refine(impl_BlocksWith.calls _ _ a1 _ _ a2 a8 a7 _ ?side1 ?side2 ?side3 ?side4 A4.out).mono ?_);(case side1=>refine(Kd.S_reads' (e:=24) (base:=w.heap.size) (ok:=fun k_=>some k_≠(.slice f2 a2.length e6:Value).ownBlock) (n:=a1.length) (c:=e5) ?_).2.2;exact zq214);(case side2=>exact(Kd.S_reads' a4.out).2.1);(case side3=>refine(Kd.Q_reads' (e:=3) (base:=w.heap.size) (ok:=fun k_=>True) (n:=a2.length) (c:=e6) ?_).2.2;exact zq172);(case side4=>exact(Kd.Q_reads' a3.out).2.1);rintro e k4 ⟨rfl,hb⟩;refine⟨_,rfl,?_⟩;replace a4:=zqm (Kd.S_below zq214 hb);replace a3:=zqm (Kd.Q_below zq172 hb);replace a0:=zqm (blk_below (g:=a5) (o:= .cells #[.slice f1 a1.length e5,.slice f2 a2.length e6] 26 (0,0)) (by(with_reducible repeat(first|refine blk_drewN ?_ _|refine blk_drew ?_|refine blk_alloc ?_ _));refine blk_put (cs:= #[.slice f1 a1.length e5,.slice none 0 0]) ?_ 1 _ rfl;(with_reducible repeat(first|refine blk_drewN ?_ _|refine blk_drew ?_|refine blk_alloc ?_ _));refine blk_put (cs:= #[.slice none 0 0,.slice none 0 0]) ?_ 0 _ rfl;(with_reducible repeat(first|refine blk_drewN ?_ _|refine blk_drew ?_|refine blk_alloc ?_ _));exact a0.out) hb);replace HB:=zqm (below_step zq3 hb);clear hb;have p1:k4.cell? ⟨a5,0,none⟩=some (.slice f1 a1.length e5):=(blk_cell a0.out 0).trans rfl;have p2:k4.cell? ⟨a5,1,none⟩=some (.slice f2 a2.length e6):=(blk_cell a0.out 1).trans rfl;have r9:=blk_frozen a0.out 0;have s2:=blk_frozen a0.out 1)|((with_reducible refine gate_callee (f:=24) rfl ?_);refine goesL_ (some 20) rfl rfl Try.func24 zqk rfl #[.agg #[.slice f1 a1.length e5,.slice f2 a2.length e6],.int .i64 a8] rfl zq1 ?_;(with_reducible refine(spec_BlocksWith.calls k _ _ a1 _ _ a2 a8 c5 _ ?side1 ?side2 ?side3 ?side4 A5.out).mono ?_);(case side1=> exact zq20);(case side2=>exact(Kd.S_reads' a4.out).2.1);(case side3=> exact zq37);(case side4=>exact(Kd.Q_reads' a3.out).2.1);rintro e t6 ⟨rfl,hb⟩;refine⟨_,rfl,?_⟩;replace a4:=zqm (Kd.S_below zq23 hb);replace a3:=zqm (Kd.Q_below zq46 hb);replace a0:=zqm (blk_below (g:=a5) (o:= .cells #[.slice f1 a1.length e5,.slice f2 a2.length e6] 26 (0,0)) zq2 hb);replace HB:=zqm (below_step zq3 hb);clear hb)))
     replace a4:=zqm (Kd.S_drew a4.out);replace a3:=zqm (Kd.Q_drew a3.out);replace a0:=zqm (blk_drew a0.out);replace HB:=zqm (below_drew1 HB.out);refine start_ (n:=27) (S:=fun w'=>True) (ds:= []) (zqb 27 0) zqk rfl rfl trivial (fun hHeld=>?_);refine with_tabW laws_FnBlocksWith.tab9 laws_FnBlocksWith.bits9 (fun HT_ HW_=>?_);generalize t6.drew=w9 at a4 a3 a0 HB hHeld ⊢;refine pure_ (i:=0) (N:=some 29) (v:=?_) (a':=?_) (zqb 27 1) rfl rfl (any_of HT_.out zqk) (fun _ _ _ h=>h) (Or.inl ⟨by rfl,?_⟩) ?_ ?_;rotate_left
     ·exact zqt
     rotate_left
     ·exact zqs
     refine pure_ (i:=1) (N:=some 30) (v:=?_) (a':=?_) (zqb 27 3) rfl rfl (any_of HT_.out zqk) (fun _ _ _ h=>h) (Or.inl ⟨by rfl,?_⟩) ?_ ?_;rotate_left
     ·exact zqt
     rotate_left
     ·exact zqs
     refine pure_ (i:=2) (N:=some 31) (v:=?_) (a':=?_) (zqb 27 7) rfl rfl (any_of HT_.out zqk) (fun _ _ _ h=>h) (Or.inl ⟨by rfl,?_⟩) ?_ ?_;rotate_left
     ·exact zqt
     rotate_left
     ·exact zqs
     refine pure_ (i:=3) (N:=some 32) (v:=undef) (a':=?_) (zqb 27 15) rfl rfl (any_of HT_.out zqk) (fun _ _ _ h=>h) (Or.inr ⟨by rfl,rfl⟩) ?_ ?_;rotate_left
     ·exact zqs
     refine pure_ (i:=4) (N:=some 33) (v:=undef) (a':=?_) (zqb 27 31) rfl rfl (any_of HT_.out zqk) (fun _ _ _ h=>h) (Or.inr ⟨by rfl,rfl⟩) ?_ ?_;rotate_left
     ·exact zqs
     refine pure_ (i:=5) (N:=some 34) (v:=undef) (a':=?_) (zqb 27 63) rfl rfl (any_of HT_.out zqk) (fun _ _ _ h=>h) (Or.inr ⟨by rfl,rfl⟩) ?_ ?_;rotate_left
     ·exact zqs
     refine pure_ (i:=6) (N:=some 35) (v:=undef) (a':=?_) (zqb 27 127) rfl rfl (any_of HT_.out zqk) (fun _ _ _ h=>h) (Or.inr ⟨by rfl,rfl⟩) ?_ ?_;rotate_left
     ·exact zqs
     refine pure_ (i:=7) (N:=some 36) (v:=undef) (a':=?_) (zqb 27 255) rfl rfl (any_of HT_.out zqk) (fun _ _ _ h=>h) (Or.inr ⟨by rfl,rfl⟩) ?_ ?_;rotate_left
     ·exact zqs
     refine pure_ (i:=8) (N:=some 37) (v:=undef) (a':=?_) (zqb 27 511) rfl rfl (any_of HT_.out zqk) (fun _ _ _ h=>h) (Or.inr ⟨by rfl,rfl⟩) ?_ ?_;rotate_left
     ·exact zqs
     refine pure_ (i:=9) (N:=some 38) (v:=undef) (a':=?_) (zqb 27 1023) rfl rfl (any_of HT_.out zqk) (fun _ _ _ h=>h) (Or.inr ⟨by rfl,rfl⟩) ?_ ?_;rotate_left
     ·exact zqs
     refine pure_ (i:=10) (N:=some 39) (v:=undef) (a':=?_) (zqb 27 2047) rfl rfl (any_of HT_.out zqk) (fun _ _ _ h=>h) (Or.inr ⟨by rfl,rfl⟩) ?_ ?_;rotate_left
     ·exact zqs
     refine pure_ (i:=11) (N:=some 40) (v:=undef) (a':=?_) (zqb 27 4095) rfl rfl (any_of HT_.out zqk) (fun _ _ _ h=>h) (Or.inr ⟨by rfl,rfl⟩) ?_ ?_;rotate_left
     ·exact zqs
     refine pure_ (i:=12) (N:=some 41) (v:=undef) (a':=?_) (zqb 27 8191) rfl rfl (any_of HT_.out zqk) (fun _ _ _ h=>h) (Or.inr ⟨by rfl,rfl⟩) ?_ ?_;rotate_left
     ·exact zqs
     refine pure_ (i:=13) (N:=some 42) (v:=undef) (a':=?_) (zqb 27 16383) rfl rfl (any_of HT_.out zqk) (fun _ _ _ h=>h) (Or.inr ⟨by rfl,rfl⟩) ?_ ?_;rotate_left
     ·exact zqs
     refine pure_ (i:=14) (N:=some 43) (v:=undef) (a':=?_) (zqb 27 32767) rfl rfl (any_of HT_.out zqk) (fun _ _ _ h=>h) (Or.inr ⟨by rfl,rfl⟩) ?_ ?_;rotate_left
     ·exact zqs
     refine pure_ (i:=15) (N:=some 44) (v:=?_) (a':=?_) (zqb 27 65535) rfl rfl (any_of HT_.out zqk) (fun _ _ _ h=>h) (Or.inl ⟨by rfl,?_⟩) ?_ ?_;rotate_left
     ·exact zqt
     rotate_left
     ·exact zqs
     refine pure_ (i:=16) (N:=some 45) (v:=?_) (a':=?_) (zqb 27 131071) rfl rfl (any_of HT_.out zqk) (fun _ _ _ h=>h) (Or.inl ⟨by rfl,?_⟩) ?_ ?_;rotate_left
     ·exact zqt
     rotate_left
     ·exact zqs
     refine pure_ (i:=17) (N:=some 46) (v:=undef) (a':=?_) (zqb 27 262143) rfl rfl (any_of HT_.out zqk) (fun _ _ _ h=>h) (Or.inr ⟨by rfl,rfl⟩) ?_ ?_;rotate_left
     ·exact zqs
     refine pure_ (i:=18) (N:=some 47) (v:=undef) (a':=?_) (zqb 27 524287) rfl rfl (any_of HT_.out zqk) (fun _ _ _ h=>h) (Or.inr ⟨by rfl,rfl⟩) ?_ ?_;rotate_left
     ·exact zqs
     refine pure_ (i:=19) (N:=some 48) (v:=undef) (a':=?_) (zqb 27 1048575) rfl rfl (any_of HT_.out zqk) (fun _ _ _ h=>h) (Or.inr ⟨by rfl,rfl⟩) ?_ ?_;rotate_left
     ·exact zqs
     refine pure_ (i:=20) (N:=some 49) (v:=undef) (a':=?_) (zqb 27 2097151) rfl rfl (any_of HT_.out zqk) (fun _ _ _ h=>h) (Or.inr ⟨by rfl,rfl⟩) ?_ ?_;rotate_left
     ·exact zqs
     refine pure_ (i:=21) (N:=some 50) (v:=undef) (a':=?_) (zqb 27 4194303) rfl rfl (any_of HT_.out zqk) (fun _ _ _ h=>h) (Or.inr ⟨by rfl,rfl⟩) ?_ ?_;rotate_left
     ·exact zqs
     refine pure_ (i:=22) (N:=some 51) (v:=undef) (a':=?_) (zqb 27 8388607) rfl rfl (any_of HT_.out zqk) (fun _ _ _ h=>h) (Or.inr ⟨by rfl,rfl⟩) ?_ ?_;rotate_left
     ·exact zqs
     refine pure_ (i:=23) (N:=some 52) (v:=undef) (a':=?_) (zqb 27 16777215) rfl rfl (any_of HT_.out zqk) (fun _ _ _ h=>h) (Or.inr ⟨by rfl,rfl⟩) ?_ ?_;rotate_left
     ·exact zqs
     refine pure_ (i:=24) (N:=some 53) (v:=undef) (a':=?_) (zqb 27 33554431) rfl rfl (any_of HT_.out zqk) (fun _ _ _ h=>h) (Or.inr ⟨by rfl,rfl⟩) ?_ ?_;rotate_left
     ·exact zqs
     refine pure_ (i:=25) (N:=some 54) (v:=?_) (a':=?_) (zqb 27 67108863) rfl rfl (any_of HT_.out zqk) (fun _ _ _ h=>h) (Or.inl ⟨by rfl,?_⟩) ?_ ?_;rotate_left
     ·exact zqt
     rotate_left
     ·exact zqs
     refine pure_ (i:=26) (N:=some 2) (v:=?_) (a':=?_) (zqb 27 134217727) rfl rfl (any_of HT_.out zqk) (fun _ _ _ h=>h) (Or.inl ⟨by rfl,?_⟩) ?_ ?_;rotate_left
     ·exact zqt
     rotate_left
     ·exact zqs
     refine done_ (done_of HT_.out zqk) ?_;try go_wp2
     go_ret
     exact⟨zq11,zq3⟩
  ·rw [if_neg c6] at H;have k9:(a7==c5)=false:=beq_eq_false_iff_ne.mpr c6;have l1:(a7 !=c5)=true:=bne_iff_ne.mpr c6;obtain rfl:=Option.some.inj H
   go_enter Try.func4,Try.ntmps4
   go_wp2_with (first|((with_reducible refine gate_callee (f:=22) rfl ?_);refine goesL_ (some 11) rfl rfl Try.func22 zqk rfl #[.slice A0 l0.length c0] rfl zq1 ?_;(with_reducible refine(spec_DrawBlocksWith.calls k _ _ l0 a1 a2 a8 _ ?side1 ?side2 A3.out).mono ?_);(case side1=> exact zq98);(case side2=>exact g0.out);rintro e x0 ⟨f8,f9,rfl,b4,d7,hb⟩;refine⟨_,rfl,?_⟩;have a4:=zqm (Kd.S_lower b4 (below_size zq0));have a3:=zqm (Kd.Q_lower d7 (below_size zq0));replace HB:=zqm (below_step zq0 hb);clear hb b4 d7)|((with_reducible refine gate_dst (N:=3) rfl ?_);(try(refine gate_guard (by rfl) ?_;dsimp only));refine box_event ?hg (N:=3) ?hd (cs:= #[.slice none 0 0,.slice none 0 0]) (t:=26) ?hr ?_;(case hd=>rfl);(case hg=>rfl);(case hr=>first|(go_simp;done)|(go_simp;rfl));intro a5 hg k5 hbox hb;replace a4:=zqm (Kd.S_below zq23 hb);replace a3:=zqm (Kd.Q_below zq46 hb);have d8:=zqm (below_step zq0 hb);have a0:=zqm (hbox);have f7:=zqm ((by rw [hg];exact(below_size zq0):w.heap.size≤a5));have a6:=zqm ((by rw [hg];exact(below_size zq0):w.heap.size≤a5));clear HB;have HB:=d8;clear d8 hb hbox hg;obtain⟨f3,e7,m7⟩:=Kd.S_slice a4.out;subst m7;have p3:k5.cell? ⟨a5,0,none⟩=some (.slice none 0 0):=(blk_cell a0.out 0).trans rfl;have p4:k5.cell? ⟨a5,1,none⟩=some (.slice none 0 0):=(blk_cell a0.out 1).trans rfl;have s3:=blk_frozen a0.out 0;have s4:=blk_frozen a0.out 1;obtain⟨f4,e8,m8,_⟩:=Kd.Q_slice a3.out;subst m8)|((with_reducible refine gate_callee (f:=23) rfl ?_);refine goesL_ (some 16) rfl rfl Try.func23 zqk rfl #[.agg #[.slice f3 a1.length e7,.slice f4 a2.length e8],.int .i64 a8] rfl zq1 ?_;(with_reducible refine(impl_BlocksWith.calls _ _ a1 _ _ a2 a8 a7 _ ?side1 ?side2 ?side3 ?side4 A4.out).mono ?_);(case side1=>refine(Kd.S_reads' (e:=24) (base:=w.heap.size) (ok:=fun k_=>some k_≠(.slice f4 a2.length e8:Value).ownBlock) (n:=a1.length) (c:=e7) ?_).2.2;exact zq215);(case side2=>exact(Kd.S_reads' a4.out).2.1);(case side3=>refine(Kd.Q_reads' (e:=3) (base:=w.heap.size) (ok:=fun k_=>True) (n:=a2.length) (c:=e8) ?_).2.2;exact zq173);(case side4=>exact(Kd.Q_reads' a3.out).2.1);rintro e k6 ⟨rfl,hb⟩;refine⟨_,rfl,?_⟩;replace a4:=zqm (Kd.S_below zq215 hb);replace a3:=zqm (Kd.Q_below zq173 hb);replace a0:=zqm (blk_below (g:=a5) (o:= .cells #[.slice f3 a1.length e7,.slice f4 a2.length e8] 26 (0,0)) (by(with_reducible repeat(first|refine blk_drewN ?_ _|refine blk_drew ?_|refine blk_alloc ?_ _));refine blk_put (cs:= #[.slice f3 a1.length e7,.slice none 0 0]) ?_ 1 _ rfl;(with_reducible repeat(first|refine blk_drewN ?_ _|refine blk_drew ?_|refine blk_alloc ?_ _));refine blk_put (cs:= #[.slice none 0 0,.slice none 0 0]) ?_ 0 _ rfl;(with_reducible repeat(first|refine blk_drewN ?_ _|refine blk_drew ?_|refine blk_alloc ?_ _));exact a0.out) hb);replace HB:=zqm (below_step zq3 hb);clear hb;have p5:k6.cell? ⟨a5,0,none⟩=some (.slice f3 a1.length e7):=(blk_cell a0.out 0).trans rfl;have p6:k6.cell? ⟨a5,1,none⟩=some (.slice f4 a2.length e8):=(blk_cell a0.out 1).trans rfl;have s5:=blk_frozen a0.out 0;have s6:=blk_frozen a0.out 1)|((with_reducible refine gate_callee (f:=24) rfl ?_);refine goesL_ (some 20) rfl rfl Try.func24 zqk rfl #[.agg #[.slice f3 a1.length e7,.slice f4 a2.length e8],.int .i64 a8] rfl zq1 ?_;(with_reducible refine(spec_BlocksWith.calls k _ _ a1 _ _ a2 a8 c5 _ ?side1 ?side2 ?side3 ?side4 A5.out).mono ?_);(case side1=> exact zq20);(case side2=>exact(Kd.S_reads' a4.out).2.1);(case side3=> exact zq37);(case side4=>exact(Kd.Q_reads' a3.out).2.1);rintro e x1 ⟨rfl,hb⟩;refine⟨_,rfl,?_⟩;replace a4:=zqm (Kd.S_below zq23 hb);replace a3:=zqm (Kd.Q_below zq46 hb);replace a0:=zqm (blk_below (g:=a5) (o:= .cells #[.slice f3 a1.length e7,.slice f4 a2.length e8] 26 (0,0)) zq2 hb);replace HB:=zqm (below_step zq3 hb);clear hb))
   go_ret
   exact⟨zq11,zq3⟩
def laws_FnBlocksWith.Pure : Prop := ∀ (l0 : List Int), l0.length ≤ maxLen → l0.length * 1 ≤ 140737488351232 → (∀ x ∈ l0, (Lit.int .u8 x).wf = true) → ∃ k, laws_FnBlocksWith.f k l0 = some true
theorem laws_FnBlocksWith.walk (P : laws_FnBlocksWith.Pure) (a0 : Option Addr) (len0 cap0 : Nat) (z0 : List Int) (w : World) (w0 : (a0 = none ∧ len0 = 0 ∧ cap0 = 0 ∧ z0 = []) ∨ ∃ x, a0 = some x ∧ len0 ≤ cap0 ∧ cap0 ≤ maxLen ∧ z0.length = cap0 ∧ (∀ i, i < z0.length → w.cell? (x.add i) = some (.int .u8 (z0.getD i 0))) ∧ ∀ n ∈ z0, (Lit.int .u8 n).wf = true) (y0 : len0 * 1 ≤ 140737488351232) :
  Calls Try.prog 4 #[.slice a0 len0 cap0] w fun e w' => e = .returned (.bool true) ∧ Below w.heap.size w w' := by
 obtain ⟨l0, rfl, hr0, hm0, hw0, hc0⟩ := ReadsInt.ofRowC w0
 obtain ⟨k, h⟩ := P l0 hm0 y0 hw0
 refine (laws_FnBlocksWith.calls k _ _ l0 true w (Kd.C_of_reads (d := (0 : Int)) (h1 := fun _ => rfl) hr0) hc0 h).mono ?_
 rintro e w' ⟨rfl, hd⟩
 exact ⟨rfl, hd⟩
end Go.Proofs.Ytcbjpdaogicibaa.Print
end
section
namespace Go.Proofs.Ytcbjpdaogicibaa.Print
open Go.RowKit Go.Proofs.YtcbjpdaogicibaaW.PrintWords Go.Proofs.YtcbjpdaogicibaaW.PrintLast Go.Proofs.YtcbjpdaogicibaaW.PrintMore
open Oml
theorem spec_l2Both.ev (U : List (List Int)) (N : List Int) (a b : Int) : Ev (fun k => spec_l2Both.f k U N a b) (logicB U N && (inR U.length a && inR U.length b)) := by
  unfold spec_l2Both.f
  refine Ev.bind (spec_LogicOk.ev U N) ?_
  cases hl:logicB U N with
  | false => repeat (first | ((with_reducible refine Ev.ite_pos ?_ ?_); (first | assumption | (focus omega) | (focus (simp; done)))) | ((with_reducible refine Ev.ite_neg ?_ ?_); (first | assumption | (focus omega) | (focus (simp; done)))))
             exact Ev.now _
  | true =>
    have L:=logicB_iff.1 hl
    have hs:=L.small
    have hp:=L.pos
    have hln:=L.len
    have e : ∀ c : Int, (decide (0 ≤ c) && decide (c ≤ wrap64 ((N.length : Int) - 1))) = inR U.length c := by
      intro c
      unfold inR
      rw [wrap_small (by omega) (by omega)]
      congr 1
      rw [decide_eq_decide];omega
    repeat(first|((with_reducible refine Ev.ite_pos ?_ ?_);(first|assumption|(focus omega)|(focus (simp;done))))|((with_reducible refine Ev.ite_neg ?_ ?_);(first|assumption|(focus omega)|(focus (simp;done)))))
    simp only [l1In_eq,e]
    refine Ev.pbind rfl ?_
    cases ha:inR U.length a with
    | false => repeat (first | ((with_reducible refine Ev.ite_pos ?_ ?_); (first | assumption | (focus omega) | (focus (simp; done)))) | ((with_reducible refine Ev.ite_neg ?_ ?_); (first | assumption | (focus omega) | (focus (simp; done)))))
               exact Ev.eq (Ev.now _) (by simp)
    | true => repeat (first | ((with_reducible refine Ev.ite_pos ?_ ?_); (first | assumption | (focus omega) | (focus (simp; done)))) | ((with_reducible refine Ev.ite_neg ?_ ?_); (first | assumption | (focus omega) | (focus (simp; done)))))
              exact Ev.eq (Ev.now _) (by simp)
theorem rd_in {U : List (List Int)} {N : List Int} (_L : Logic U N) {a : Int} (ha : In U a) : rd N a = notI N a := by
  obtain ⟨x, rfl⟩ : ∃ x : Nat, a = x := ⟨a.toNat, by have := ha.1; omega⟩
  rw [rd_nat]; rfl
end Go.Proofs.Ytcbjpdaogicibaa.Print
end
