/- Part 1 of what this is proved by: for every text of bytes the law of HighOf answers true -/
import Derived.Test.YtdoomkcgdcfmlaaLB7
import Derived.Below
import Derived.Deep.Draws
import Derived.Deep.AppendLies
import Derived.Maps.AppendAt
import Derived.OwnWalk
import Derived.Laws.BytesArg
import Derived.Laws.MakeOwn
import Derived.Laws.OwnMore
import Derived.Deep.OwnRows
import Derived.Tactics
import Derived.Lib.ConvBytes
import Derived.Laws.Slices
import Derived.WalkKit
import Derived.KernelRfl
import Derived.RowKit3
import Derived.Deep.LoopGhost
import Derived.Deep.QuietTactic
import Derived.BigQuiet
import Derived.WideLaws
import Derived.Deep.DeepCutAuto
import Derived.Deep.CutBlock
import Derived.Deep.RegionHeld3
import Derived.Laws.Rows
import Derived.Lib.AppendStr
import Derived.ArgAppend
import Derived.Laws.IdiomCopy
import Derived.RowKit
import Derived.Test.YtdoomkcgdcfmlaaProg
import Derived.OrdersHeld
import Derived.Laws.BitsLemmas
import Derived.ProofKit
import Derived.OpenShut
set_option linter.all false
section
namespace Go.Proofs.YtdoomkcgdcfmlaaW.PrintWords
open Go.RowKit
def nums (k : IntKind) (xs : List Int) : List Value := xs.map fun x => .int k x
theorem own_lit (W : World) (base : Nat) (e : TypeId) (k : IntKind) (xs : List Int) (hb : base ≤ W.heap.size) (hm : xs.length ≤ 9223372036854775807) :
    (W.alloc (.cells (nums k xs).toArray e)).ownsRow base e 1 (.slice (some ⟨W.heap.size,0,none⟩) xs.length xs.length) xs.length (nums k xs):=by
  have h:=World.ownsRow_lit (base:=base) (e:=e) (size:=1) W (nums k xs).toArray xs.length hb (by simpa [maxLen] using hm) (by simp [nums])
  simpa using h
section
variable {P : Program}
theorem results_ct {fn : Func} {p u : Tmp} {ty : TypeId} (h : fn.results = #[.cell p ty, .tmp u]) (tmps : Array Value) (w : World) (g : Nat) (t : TypeId) (cs : Array Value) (fr : Nat × Nat) (d : TypeDesc)
    (hp:tmps.getD p undef= .pointer (some ⟨g,0,none⟩)) (hg:w.heap[g]? =some (.cells cs t fr))
    (hu:P.underlying ty=some d) (hd:(match d with| .struct _| .array _ _=>true|_=>false)=true) (hi:(P.info? ty).map (·.size)=some cs.size):
    (results fn tmps).run P w= .ok (.tuple #[.agg cs,tmps.getD u undef]) w:=by
  have hp':tmps[p]?.getD undef= .pointer (some ⟨g,0,none⟩):=by simpa using hp
  simp [results,h,hp',asAddr,run_loadVar_row w g t ty cs fr d hg hu hd hi]
theorem results_ctt {fn : Func} {p u v : Tmp} {ty : TypeId} (h : fn.results = #[.cell p ty, .tmp u, .tmp v]) (tmps : Array Value) (w : World) (g : Nat) (t : TypeId) (cs : Array Value) (fr : Nat × Nat) (d : TypeDesc)
    (hp:tmps.getD p undef= .pointer (some ⟨g,0,none⟩)) (hg:w.heap[g]? =some (.cells cs t fr))
    (hu:P.underlying ty=some d) (hd:(match d with| .struct _| .array _ _=>true|_=>false)=true) (hi:(P.info? ty).map (·.size)=some cs.size):
    (results fn tmps).run P w= .ok (.tuple #[.agg cs,tmps.getD u undef,tmps.getD v undef]) w:=by
  have hp':tmps[p]?.getD undef= .pointer (some ⟨g,0,none⟩):=by simpa using hp
  simp [results,h,hp',asAddr,run_loadVar_row w g t ty cs fr d hg hu hd hi]
end
theorem cell_far {W : World} {p a : Addr} (h : a.block ≠ p.block) (u : Value) : (W.setCell p u).cell? a = W.cell? a := by
  have := Below.heap_setCell W p u a.block h
  simp [World.cell?, this]
end Go.Proofs.YtdoomkcgdcfmlaaW.PrintWords
end
section
namespace Go.Proofs.YtdoomkcgdcfmlaaW.PrintWords
open Go.RowKit
def mx (a b : Int) : Int := if a < b then b else a
end Go.Proofs.YtdoomkcgdcfmlaaW.PrintWords

end
section
namespace Go.Proofs.Ytdoomkcgdcfmlaa
variable {p : Prop}
theorem zq9 (h:p:=by repeat(first|(with_reducible first|exact HB.out|apply below_alloc|apply pw_below_drewN|apply below_drew1|refine below_set ?_ a8.out)|exact HB.out)):p:=h
theorem zq26 (h:p:=by repeat(first|exact(Kd.C_below a8.out HB.out)|(with_reducible refine Kd.C_alloc ?_ _)|(with_reducible refine Kd.C_drewN ?_ _)|(with_reducible refine Kd.C_drew ?_))):p:=h
theorem zq30 (h:p:=by repeat(first|(with_reducible first|exact HB.out|apply below_alloc|apply pw_below_drewN|apply below_drew1|refine below_set ?_ (IsS87.ge a2.out)|refine below_set ?_ a5.out)|exact HB.out)):p:=h
theorem zq45 (h:p:=by repeat(first|exact(Kd.C_below b0.out HB.out)|(with_reducible refine Kd.C_alloc ?_ _)|(with_reducible refine Kd.C_drewN ?_ _)|(with_reducible refine Kd.C_drew ?_))):p:=h
theorem zq53 (h:p:=by repeat(first|exact(Kd.S_reads' HO_873000.out).2.2|(with_reducible refine Kd.C_alloc ?_ _)|(with_reducible refine Kd.C_drewN ?_ _)|(with_reducible refine Kd.C_drew ?_))):p:=h
theorem zq57 (h:p:=by repeat(first|exact(Kd.C_below a9.out HB.out)|(with_reducible refine Kd.C_alloc ?_ _)|(with_reducible refine Kd.C_drewN ?_ _)|(with_reducible refine Kd.C_drew ?_))):p:=h
theorem zq59 (h:p:=by (with_reducible repeat(first|apply Kd.Q_alloc|apply Kd.Q_drewN|apply Kd.Q_drew));exact HO_873001.out):p:=h
theorem zq73 (h:p:=by repeat(first|exact(Kd.Q_reads' HO_873001.out).2.2|(with_reducible refine Kd.C_alloc ?_ _)|(with_reducible refine Kd.C_drewN ?_ _)|(with_reducible refine Kd.C_drew ?_))):p:=h
theorem zq75 (h:p:=by (with_reducible repeat(first|apply Kd.S_alloc|apply Kd.S_drewN|apply Kd.S_drew));exact HO_873000.out):p:=h
theorem zq76 (h:p:=by (with_reducible repeat(first|apply Kd.S_alloc|apply Kd.S_drewN|apply Kd.S_drew));exact a6.out):p:=h
theorem zq85 (h:p:=by (with_reducible repeat(first|refine blk_drewN ?_ _|refine blk_drew ?_|refine blk_alloc ?_ _));refine blk_put (cs:= #[.slice b7 a7.length b8,.slice none 0 0]) ?_ 1 _ rfl;(with_reducible repeat(first|refine blk_drewN ?_ _|refine blk_drew ?_|refine blk_alloc ?_ _));refine blk_put (cs:= #[.slice none 0 0,.slice none 0 0]) ?_ 0 _ rfl;(with_reducible repeat(first|refine blk_drewN ?_ _|refine blk_drew ?_|refine blk_alloc ?_ _));refine blk_far ?_ a8.out _;(with_reducible repeat(first|refine blk_drewN ?_ _|refine blk_drew ?_|refine blk_alloc ?_ _));refine blk_far ?_ a8.out _;(with_reducible repeat(first|refine blk_drewN ?_ _|refine blk_drew ?_|refine blk_alloc ?_ _));exact a0.out):p:=h
theorem zq102 (h:p:=by repeat(first|(with_reducible first|exact HB.out|apply below_alloc|apply pw_below_drewN|apply below_drew1|refine below_set ?_ (IsS87.ge a0.out)|refine below_set ?_ c3.out|refine below_set ?_ d0.out)|exact HB.out)):p:=h
theorem zq117 (h:p:=by repeat(first|(with_reducible first|exact a0.out|apply IsS87.alloc|apply IsS87.drewN|apply IsS87.drew|apply IsS87.set_1|refine IsS87.far ?_ a7.out _|refine IsS87.far ?_ a9.out _)|exact a0.out)):p:=h
theorem zq118 (h:p:=by repeat(first|(with_reducible first|exact HK.out|apply KeepBut.set_|apply keep_drewN|apply keep_drew|apply keep_alloc|refine keep_far ?_ b9.out _|refine keep_far ?_ c9.out _)|exact HK.out)):p:=h
theorem zq119 (h:p:=by repeat(first|exact(Kd.S_reads' a6.out).2.2|(with_reducible refine Kd.C_alloc ?_ _)|(with_reducible refine Kd.C_drewN ?_ _)|(with_reducible refine Kd.C_drew ?_))):p:=h
theorem zq128 (h:p:=by repeat(first|(with_reducible first|exact a2.out|apply IsS87.alloc|apply IsS87.drewN|apply IsS87.drew|apply IsS87.set_1|refine IsS87.far ?_ a4.out _)|exact a2.out)):p:=h
theorem zq132 (h:p:=by repeat(first|(with_reducible first|exact HK.out|apply KeepBut.set_|apply keep_drewN|apply keep_drew|apply keep_alloc|refine keep_far ?_ b9.out _)|exact HK.out)):p:=h
theorem zq135 (h:p:=by (with_reducible repeat(first|apply Kd.Q_alloc|apply Kd.Q_drewN|apply Kd.Q_drew));exact Kd.Q_mono (Kd.Q_far (p:=⟨a1,1,none⟩) (Kd.Q_far (p:=⟨a1,0,none⟩) (Kd.Q_far (p:=⟨a3,1,none⟩) (Kd.Q_far (p:=⟨a3,0,none⟩) (Kd.Q_types (Kd.Q_types b3.out a9.out (by decide)) a0.out (by decide)) (fun _ hk=>hk.1.2) (.slice b7 a7.length b8)) (fun _ hk=>hk.1.2) (.slice b5 b0.length b6)) (fun _ hk=>hk.2) (.slice b7 a7.length b8)) (fun _ hk=>hk.2) (.slice b5 b0.length b6)) (fun _ hk=>trivial)):p:=h
theorem zq136 (h:p:=by (with_reducible repeat(first|apply Kd.S_alloc|apply Kd.S_drewN|apply Kd.S_drew));exact Kd.S_mono (Kd.S_far (p:=⟨a1,1,none⟩) (Kd.S_far (p:=⟨a1,0,none⟩) (Kd.S_far (p:=⟨a3,1,none⟩) (Kd.S_far (p:=⟨a3,0,none⟩) (Kd.S_types (Kd.S_types b2.out a9.out (by decide)) a0.out (by decide)) (fun _ hk=>hk.1.2) (.slice b7 a7.length b8)) (fun _ hk=>hk.1.2) (.slice b5 b0.length b6)) (fun _ hk=>hk.2) (.slice b7 a7.length b8)) (fun _ hk=>hk.2) (.slice b5 b0.length b6)) (fun _ hk=>hk.1.1)):p:=h
theorem zq138 (h:p:=by (with_reducible repeat(first|apply Kd.Q_alloc|apply Kd.Q_drewN|apply Kd.Q_drew));exact a7.out):p:=h
theorem zq149 (h:p:=by repeat(first|(with_reducible exact b5.out)|(with_reducible refine Kd.C_alloc ?_ _)|(with_reducible refine Kd.C_drewN ?_ _)|(with_reducible refine Kd.C_drew ?_)|exact b5.out)):p:=h
theorem zq153 (h:p:=by (with_reducible repeat(first|refine blk_drewN ?_ _|refine blk_drew ?_|refine blk_alloc ?_ _));exact a6.out):p:=h
theorem zq165 (h:p:=by (with_reducible repeat(first|apply Kd.R_alloc|apply Kd.R_drewN|apply Kd.R_drew));exact b6.out):p:=h
theorem zq175 (h:p:=by repeat(first|exact(Kd.Q_reads' a7.out).2.2|(with_reducible refine Kd.C_alloc ?_ _)|(with_reducible refine Kd.C_drewN ?_ _)|(with_reducible refine Kd.C_drew ?_))):p:=h
theorem zq176 (h:p:=by repeat(first|(with_reducible first|exact HB.out|apply below_alloc|apply pw_below_drewN|apply below_drew1|refine below_set ?_ (IsS87.ge a2.out)|refine below_set ?_ a5.out|refine below_set ?_ c8.out)|exact HB.out)):p:=h
theorem zq194 (h:p:=by (with_reducible repeat(first|apply Kd.Q_alloc|apply Kd.Q_drewN|apply Kd.Q_drew));exact(Kd.Q_mono (Kd.Q_far (p:=⟨a2,1,none⟩) (Kd.Q_far (p:=⟨a2,0,none⟩) (Kd.Q_types a7.out a0.out (by decide)) (fun _ hk=>hk.2) (.slice f3 a1.length e8)) (fun _ hk=>hk.2) (.slice f4 a3.length e9)) (fun _ h_=>h_.1))):p:=h
theorem zq200 (h:p:=by (with_reducible repeat(first|apply Kd.Q_alloc|apply Kd.Q_drewN|apply Kd.Q_drew));exact(Kd.Q_mono (Kd.Q_far (p:=⟨a2,1,none⟩) (Kd.Q_far (p:=⟨a2,0,none⟩) (Kd.Q_types a7.out a0.out (by decide)) (fun _ hk=>hk.2) (.slice b1 a1.length a9)) (fun _ hk=>hk.2) (.slice b2 a3.length b0)) (fun _ h_=>h_.1))):p:=h
theorem zq204 (h:p:=by (with_reducible repeat(first|apply Kd.S_alloc|apply Kd.S_drewN|apply Kd.S_drew));exact(Kd.S_mono (Kd.S_far (p:=⟨a2,1,none⟩) (Kd.S_far (p:=⟨a2,0,none⟩) (Kd.S_types a6.out a0.out (by decide)) (fun _ hk=>hk.2) (.slice e2 a1.length d5)) (fun _ hk=>hk.2) (.slice e3 a3.length d6)) (fun _ h_=>h_.1))):p:=h
theorem zq210 (h:p:=by (with_reducible repeat(first|apply Kd.S_alloc|apply Kd.S_drewN|apply Kd.S_drew));exact(Kd.S_mono (Kd.S_far (p:=⟨a2,1,none⟩) (Kd.S_far (p:=⟨a2,0,none⟩) (Kd.S_types a6.out a0.out (by decide)) (fun _ hk=>hk.2) (.slice f3 a1.length e8)) (fun _ hk=>hk.2) (.slice f4 a3.length e9)) (fun _ h_=>h_.1))):p:=h
theorem zq232 (h:p:=by (with_reducible repeat(first|apply Kd.S_alloc|apply Kd.S_drewN|apply Kd.S_drew));exact(Kd.S_mono (Kd.S_far (p:=⟨a2,1,none⟩) (Kd.S_far (p:=⟨a2,0,none⟩) (Kd.S_types a6.out a0.out (by decide)) (fun _ hk=>hk.2) (.slice b1 a1.length a9)) (fun _ hk=>hk.2) (.slice b2 a3.length b0)) (fun _ h_=>h_.1))):p:=h
theorem zq252 (h:p:=by (with_reducible repeat(first|apply Kd.Q_alloc|apply Kd.Q_drewN|apply Kd.Q_drew));exact(Kd.Q_mono (Kd.Q_far (p:=⟨a2,1,none⟩) (Kd.Q_far (p:=⟨a2,0,none⟩) (Kd.Q_types a7.out a0.out (by decide)) (fun _ hk=>hk.2) (.slice f1 a1.length e4)) (fun _ hk=>hk.2) (.slice f2 a3.length e5)) (fun _ h_=>h_.1))):p:=h
theorem zq254 (h:p:=by (with_reducible repeat(first|apply Kd.S_alloc|apply Kd.S_drewN|apply Kd.S_drew));exact(Kd.S_mono (Kd.S_far (p:=⟨a2,1,none⟩) (Kd.S_far (p:=⟨a2,0,none⟩) (Kd.S_types a6.out a0.out (by decide)) (fun _ hk=>hk.2) (.slice f1 a1.length e4)) (fun _ hk=>hk.2) (.slice f2 a3.length e5)) (fun _ h_=>h_.1))):p:=h
theorem zq264 (h:p:=by (with_reducible repeat(first|apply Kd.Q_alloc|apply Kd.Q_drewN|apply Kd.Q_drew));exact(Kd.Q_mono (Kd.Q_far (p:=⟨a2,1,none⟩) (Kd.Q_far (p:=⟨a2,0,none⟩) (Kd.Q_types a7.out a0.out (by decide)) (fun _ hk=>hk.2) (.slice e2 a1.length d5)) (fun _ hk=>hk.2) (.slice e3 a3.length d6)) (fun _ h_=>h_.1))):p:=h
theorem zq268 (h:p:=by repeat(first|exact HB.out|apply below_alloc|apply pw_below_drewN|apply below_drew1)):p:=h
theorem zq270 (h:p:=by repeat(first|exact i7.out|(with_reducible refine Kd.C_alloc ?_ _)|(with_reducible refine Kd.C_drewN ?_ _)|(with_reducible refine Kd.C_drew ?_))):p:=h
theorem zq275 (h:p:=by (with_reducible repeat(first|apply Kd.Q_alloc|apply Kd.Q_drewN|apply Kd.Q_drew));exact b4.out):p:=h
theorem zq296 (h:p:=by repeat(first|exact(Kd.R_reads' b6.out).2.2|(with_reducible refine Kd.C_alloc ?_ _)|(with_reducible refine Kd.C_drewN ?_ _)|(with_reducible refine Kd.C_drew ?_))):p:=h
theorem zq308 (h:p:=by first|go_num|(rw [wrap_small (by omega) (by have:=HLT.out;have:=HSM.out;omega)];go_num)):p:=h
theorem zq311 (h:p:=by (with_reducible repeat(first|refine blk_drewN ?_ _|refine blk_drew ?_|refine blk_alloc ?_ _));exact a3.out):p:=h
theorem zq325 (h:p:=by (with_reducible repeat(first|apply Kd.S_alloc|apply Kd.S_drewN|apply Kd.S_drew));exact b2.out):p:=h
theorem zq330 (h:p:=by (with_reducible repeat(first|apply Kd.Q_alloc|apply Kd.Q_drewN|apply Kd.Q_drew));exact b3.out):p:=h
theorem zq333 (h:p:=by repeat(first|(with_reducible first|exact HB.out|apply below_alloc|apply pw_below_drewN|apply below_drew1|refine below_set ?_ (IsS87.ge a0.out)|refine below_set ?_ c3.out)|exact HB.out)):p:=h
theorem zq336 (h:p:=by repeat(first|exact Below.refl _ _|apply pw_below_drewN|apply below_drew1)):p:=h
theorem zq346 (h:p:=by repeat(first|(with_reducible first|exact a0.out|apply IsS87.alloc|apply IsS87.drewN|apply IsS87.drew|apply IsS87.set_1|refine IsS87.far ?_ a7.out _)|exact a0.out)):p:=h
theorem zq354 (h:p:=by (try simp only [List.map_toArray,List.map_cons,List.map_nil]);first|done|(simp only [c8];rfl)|rfl|(simp only [List.length_drop,List.length_take];rfl)):p:=h
theorem zq356 (h:p:=by repeat(first|exact d3.out|(with_reducible refine Kd.C_alloc ?_ _)|(with_reducible refine Kd.C_drewN ?_ _)|(with_reducible refine Kd.C_drew ?_))):p:=h
theorem zq366 (h:p:=by (with_reducible repeat(first|apply Kd.R_alloc|apply Kd.R_drewN|apply Kd.R_drew));exact e1.out):p:=h
theorem zq379 (h:p:=by repeat(first|exact HV3.out|apply View.drewN)):p:=h
theorem zq381 (h:p:=by exact HV.out.below (by repeat(first|exact HB.out|apply below_alloc|apply pw_below_drewN|apply below_drew1))):p:=h
theorem zq383 (h:p:=by first|exact d1|exact zqo|(have e_:=(Kd.S_reads' HO_873000.out).1;omega)):p:=h
theorem zq389 (h:p:=by (with_reducible repeat(first|apply Kd.R_alloc|apply Kd.R_drewN|apply Kd.R_drew));exact e3.out):p:=h
theorem zq397 (h:p:=by repeat(first|exact Below.refl _ _|apply below_alloc|apply pw_below_drewN|apply below_drew1)):p:=h
theorem zq408 (h:p:=by repeat(first|exact HB1.out|apply below_alloc|apply pw_below_drewN|apply below_drew1)):p:=h
theorem zq414 (h:p:=by repeat(first|exact HUC.out|(refine Kd.C_drewN ?_ _)|(refine Kd.C_drew ?_))):p:=h
theorem zq428 (h:p:=by repeat(first|exact HB4.out|apply pw_below_drewN|apply below_drew1)):p:=h
end Go.Proofs.Ytdoomkcgdcfmlaa
end
section
namespace Go.Proofs.Ytdoomkcgdcfmlaa.Print
open Go.RowKit Go.Proofs.YtdoomkcgdcfmlaaW.PrintWords Go.Proofs.YtdoomkcgdcfmlaaW.PrintLast Go.Proofs.YtdoomkcgdcfmlaaW.PrintMore
mutual
def spec_l8High.l0 : Nat → List (List Int) → Int → Int → Int → Option (Int)
 | 0, _, _, _, _ => none
 | k + 1, x0, x1, x5, x6 => if x6 < (x0.length : Int) then (if x6 = x1 then (spec_l8High.l0 k x0 x1 x5 (wrap64 (x6 + 1))) else (if 0 ≤ x6 then (if 0 ≤ x1 then (if x1 < ((rd_L3 x0 x6).length : Int) then (if (rd (rd_L3 x0 x6) x1) = 1 then ((spec_l8High.f k x0 x6).bind fun t764 => (spec_l8High.l0 k x0 x1 (mx x5 (wrap64 (t764 + 1))) (wrap64 (x6 + 1)))) else (spec_l8High.l0 k x0 x1 x5 (wrap64 (x6 + 1)))) else (none)) else (none)) else (none))) else (some x5)
def spec_l8High.f : Nat → List (List Int) → Int → Option (Int)
 | 0, _, _ => none
 | k + 1, l0, a1 => spec_l8High.l0 k l0 a1 0 0
end
set_option maxHeartbeats 8000000 in
set_option maxRecDepth 100000 in
theorem spec_l8High.calls (k : Nat) : ∀ (A0 : Option Addr) (c0 : Nat) (l0 : List (List Int)) (a1 : Int) (r : Int) (w : World) (hr0 : Kd.C (Kd.slice 3 (Kd.int .i64)) w A0 l0.length l0) (hc0 : l0.length ≤ c0) (h : spec_l8High.f k l0 a1 = some r),
  Calls Try.prog 89 #[.slice A0 l0.length c0, .int .i64 a1] w fun e w' => e = .returned (.int .i64 r) ∧ Below w.heap.size w w' := by
 induction k using Nat.strongRecOn with
 |_ k ih=>
 intro A0 c0 l0 a1 r w hr0 hc0 h
 cases k with
 |zero=>exact absurd h (by simp [spec_l8High.f])
 |succ k=>
 simp only [spec_l8High.f] at h;have c1:=zqm hr0;have d7:=zqm hc0;clear hr0 hc0;have HB:=zqm (Below.refl w.heap.size w);have H:(spec_l8High.l0 k l0 a1 0 0)=some r:=h;clear h;have H':=zqm H;clear H
 go_enter Try.func89,Try.ntmps89
 go_wp2
 go_loopg [5,6] k (fun kq v5 v6 w'=> ∃(a6:Int) (a0:Int),v5= .int .i64 a6∧v6= .int .i64 a0∧Aside0 (spec_l8High.l0 kq l0 a1 a6 a0=some r)∧Aside0 (kq≤k)∧Aside0 (Below w.heap.size w w'))
 case atStart=>exact⟨(0),(0),(by first|rfl|(simp;done)|(simp [*];done)),(by first|rfl|(simp;done)|(simp [*];done)),H',⟨Nat.le_refl _⟩,⟨zq0⟩⟩
 case round=>
  clear H';(try clear p2);obtain⟨a6,a0,rfl,rfl,HA,b3,HB⟩:=hrel
  cases gk with
  |zero=>exact absurd HA.out (by simp [spec_l8High.l0])
  |succ k1=>
   have H:=HA.out;clear HA;simp only [spec_l8High.l0] at H
   by_cases c3:a0<(l0.length:Int)
   ·rw [if_pos c3] at H;have d2:decide (a0<(l0.length:Int))=true:=decide_eq_true c3;clear c3
    by_cases c4:a0=a1
    ·rw [if_pos c4] at H;have d3:(a0==a1)=true:=beq_iff_eq.mpr c4;have d4:(a0 !=a1)=false:=bne_eq_false_iff_eq.mpr c4;clear c4;have H':=zqm H;clear H
     go_wp2
     go_roundg k1
     (case measure=>have:=b3.out;omega);case rel=>exact⟨(a6),(wrap64 (a0+1)),(by first|rfl|(simp;done)|(simp [*];done)),(by first|rfl|(simp;done)|(simp [*];done)),H',⟨by have:=b3.out;omega⟩,⟨zq0⟩⟩
    ·rw [if_neg c4] at H;have d3:(a0==a1)=false:=beq_eq_false_iff_ne.mpr c4;have d4:(a0 !=a1)=true:=bne_iff_ne.mpr c4
     by_cases c5:0≤a0
     ·rw [if_pos c5] at H;have d9:decide (0≤a0)=true:=decide_eq_true c5;clear c5
      by_cases c6:0≤a1
      ·rw [if_pos c6] at H;have e0:decide (0≤a1)=true:=decide_eq_true c6;clear c6
       by_cases c7:a1<((rd_L3 l0 a0).length:Int)
       ·rw [if_pos c7] at H;have e1:decide (a1<((rd_L3 l0 a0).length:Int))=true:=decide_eq_true c7;clear c7
        by_cases c8:(rd (rd_L3 l0 a0) a1)=1
        ·rw [if_pos c8] at H;have d5:((rd (rd_L3 l0 a0) a1)==1)=true:=beq_iff_eq.mpr c8;have d6:((rd (rd_L3 l0 a0) a1) !=1)=false:=bne_eq_false_iff_eq.mpr c8;clear c8;replace H:=Option.bind_eq_some_iff.mp H;obtain⟨b4,d1,H⟩:=H;replace H:(spec_l8High.l0 k1 l0 a1 (mx a6 (wrap64 (b4+1))) (wrap64 (a0+1)))=some r:=H;have A9:=zqm d1;clear d1;obtain⟨b5,b1⟩: ∃j_:Int,(mx a6 (wrap64 (b4+1)))=j_:=⟨_,rfl⟩;(replace H:(spec_l8High.l0 k1 l0 a1 b5 (wrap64 (a0+1)))=some r:=by first|(rw [b1] at H;exact H)|(simp only [b1] at H ⊢;exact H));(try rw [b1] at A9);have d8:(if a6<(wrap64 (b4+1)) then(wrap64 (b4+1)) else a6)=b5:=b1;have H':=zqm H;clear H;have a7:0≤(a0:Int):=zqo;have a8:a0<(l0.length:Int):=zqo;obtain⟨b8,c2,c9,b6,a2,a4,a5⟩:=at_L3 c1.out a0 a7 a8
         cases b6
         replace a2:=(HB.out.cell (World.block_lt_of_cell? w _ a2)).trans a2;have b2:=zqm a5;have b9:=zqm a4;clear a5 a4;replace a7:=eq_true a7;replace a8:=eq_true a8;have a9:0≤(a1:Int):=zqo;have b0:a1<((rd_L3 l0 a0).length:Int):=zqo;obtain⟨d0,b7,a3⟩:=Kd.at_int b2.out a1 a9 b0
         cases b7
         replace a3:=(HB.out.cell (World.block_lt_of_cell? w _ a3)).trans a3;replace a9:=eq_true a9;replace b0:=eq_true b0
         go_wp2_with (first|((with_reducible refine gate_callee (f:=89) rfl ?_);refine goesL_ (some 29) rfl rfl Try.func89 zqk rfl #[.slice (some b8) l0.length c0,.int .i64 a0] rfl zq1 ?_;(with_reducible refine(ih k1 (by have:=b3.out;omega) _ _ l0 a0 b4 _ ?side1 ?side2 A9.out).mono ?_);(case side1=>repeat(first|exact(Kd.C_below c1.out HB.out)|(with_reducible refine Kd.C_alloc ?_ _)|(with_reducible refine Kd.C_drewN ?_ _)|(with_reducible refine Kd.C_drew ?_)));(case side2=>exact d7.out);rintro e e2 ⟨rfl,hb⟩;refine⟨_,rfl,?_⟩;replace HB:=zqm (below_step zq0 hb);clear hb))
         go_roundg k1
         (case measure=>have:=b3.out;omega);case rel=>exact⟨(b5),(wrap64 (a0+1)),(by first|rfl|(simp;done)|(simp only [← b1] <;> (first|rfl|simp))|(simp [*];done)),(by first|rfl|(simp;done)|(simp [*];done)),H',⟨by have:=b3.out;omega⟩,⟨zq0⟩⟩
        ·rw [if_neg c8] at H;have d5:((rd (rd_L3 l0 a0) a1)==1)=false:=beq_eq_false_iff_ne.mpr c8;have d6:((rd (rd_L3 l0 a0) a1) !=1)=true:=bne_iff_ne.mpr c8;have H':=zqm H;clear H;have a7:0≤(a0:Int):=zqo;have a8:a0<(l0.length:Int):=zqo;obtain⟨b8,c2,c9,b6,a2,a4,a5⟩:=at_L3 c1.out a0 a7 a8
         cases b6
         replace a2:=(HB.out.cell (World.block_lt_of_cell? w _ a2)).trans a2;have b2:=zqm a5;have b9:=zqm a4;clear a5 a4;replace a7:=eq_true a7;replace a8:=eq_true a8;have a9:0≤(a1:Int):=zqo;have b0:a1<((rd_L3 l0 a0).length:Int):=zqo;obtain⟨d0,b7,a3⟩:=Kd.at_int b2.out a1 a9 b0
         cases b7
         replace a3:=(HB.out.cell (World.block_lt_of_cell? w _ a3)).trans a3;replace a9:=eq_true a9;replace b0:=eq_true b0
         go_wp2
         go_roundg k1
         (case measure=>have:=b3.out;omega);case rel=>exact⟨(a6),(wrap64 (a0+1)),(by first|rfl|(simp;done)|(simp [*];done)),(by first|rfl|(simp;done)|(simp [*];done)),H',⟨by have:=b3.out;omega⟩,⟨zq0⟩⟩
       ·rw [if_neg c7] at H;exact absurd H (by simp)
      ·rw [if_neg c6] at H;exact absurd H (by simp)
     ·rw [if_neg c5] at H;exact absurd H (by simp)
   ·rw [if_neg c3] at H;have d2:decide (a0<(l0.length:Int))=false:=decide_eq_false c3;clear c3;obtain rfl:=Option.some.inj H
    go_wp2
    go_ret
    exact⟨zq11,zq0⟩
end Go.Proofs.Ytdoomkcgdcfmlaa.Print
end
section
namespace Oml
universe u
namespace OL
variable {α : Type u} (L : OL α)
theorem le_bot {a : α} (h : L.le a L.bot) : a = L.bot := L.le_antisymm _ _ h (L.bot_le _)
variable {L}
structure High (L : OL α) (h : α → Nat) : Prop where
  mono : ∀ a b, L.le a b → a ≠ b → h a < h b
  step : ∀ a, h a ≠ 0 → ∃ b, L.le b a ∧ b ≠ a ∧ h b + 1 = h a
theorem High.eq {h : α → Nat} (H : L.High h) {a b : α} (k : L.le a b) (e : h b ≤ h a) : a = b := by
  apply Classical.byContradiction
  intro ne
  have := H.mono _ _ k ne
  omega
theorem High.bot_iff {h : α → Nat} (H : L.High h) (a : α) : h a = 0 ↔ a = L.bot := by
  constructor
  · intro e
    exact (H.eq (L.bot_le a) (by omega)).symm
  · rintro rfl
    apply Classical.byContradiction
    intro ne
    obtain ⟨b, hb, hne, _⟩ := H.step _ ne
    exact hne (L.le_bot hb)
theorem High.one_iff {h : α → Nat} (H : L.High h) (a : α) : h a = 1 ↔ a ≠ L.bot ∧ ∀ b, L.le b a → b = L.bot ∨ b = a := by
  constructor
  · intro e
    refine⟨fun z=>by rw [(H.bot_iff a).2 z] at e;omega,fun b hb=>?_⟩
    by_cases k:b=a
    · exact .inr k
    · have := H.mono _ _ hb k
      exact .inl ((H.bot_iff b).1 (by omega))
  · rintro ⟨hne, hb⟩
    have h0:h a≠0:=fun z=>hne ((H.bot_iff a).1 z)
    obtain⟨b,h1,h2,h3⟩:=H.step _ h0
    rcases hb b h1 with e|e
    · rw [(H.bot_iff b).2 e] at h3;omega
    · exact absurd e h2
end OL
end Oml
end
section
namespace Oml
theorem allN_false {n : Nat} {p : Nat → Bool} : allN n p = false ↔ ∃ i, i < n ∧ p i = false := by
  rw [← Bool.not_eq_true,allN_iff]
  constructor
  · intro h
    apply Classical.byContradiction
    intro k
    exact h fun i hi => by
      cases e:p i
      · exact absurd ⟨i,hi,e⟩ k
      · rfl
  · rintro ⟨i, hi, e⟩ h
    rw [h i hi] at e
    exact absurd e (by simp)
section
variable {U : List (List Int)} {N : List Int} (L : Logic U N)
theorem Logic.ng_eq (a : Fin U.length) : at1 N a = ((L.ng a).1 : Int) := by
  have := L.ran a a.2
  show at1 N a = (((at1 N a).toNat : Nat) : Int)
  omega
include L in
end
end Oml
end
section
namespace Go.Proofs.Ytdoomkcgdcfmlaa.Print
open Go.RowKit Go.Proofs.YtdoomkcgdcfmlaaW.PrintWords Go.Proofs.YtdoomkcgdcfmlaaW.PrintLast Go.Proofs.YtdoomkcgdcfmlaaW.PrintMore
open Oml
def inR (n : Nat) (a : Int) : Bool := decide (0 ≤ a) && decide (a < (n : Int))
theorem inR_iff {U : List (List Int)} {a : Int} : inR U.length a = true ↔ In U a := by simp [inR, In]
def leI (U : List (List Int)) (a b : Int) : Bool := leB U a.toNat b.toNat
section
variable {U : List (List Int)} {N : List Int} (L : Logic U N)
include L
theorem _root_.Oml.Logic.in_not {a : Int} (ha : In U a) : In U (notI N a) := L.ran a.toNat (by have := ha.1; have := ha.2; omega)
theorem _root_.Oml.Logic.le_val {a b : Int} (ha : In U a) (hb : In U b) : at2 U a.toNat b.toNat = if leI U a b = true then 1 else 0 :=
  L.toOrder.val (by have := ha.1; have := ha.2; omega) (by have := hb.1; have := hb.2; omega)
end
namespace View
section
variable {W W1 : World} {g : Nat} {U : List (List Int)} {N : List Int} {v : Adr} (h : View W g U N v)
include h
theorem f4 : W.cell? ⟨g, 4, none⟩ = some (.int .i64 (noI U)) := (blk_cell h.blk 4).trans rfl
theorem f5 : W.cell? ⟨g, 5, none⟩ = some (.int .i64 (yesI U N)) := (blk_cell h.blk 5).trans rfl
theorem rowsU (L : Logic U N) : Kd.C (Kd.slice 3 (Kd.int .i64)) W (some v.aU) U.length U := by
  have hs:=L.small
  refine⟨rfl,by omega,fun _=>⟨v.aU,rfl,fun j p hp=>?_⟩⟩
  have hj:j<U.length:=(List.getElem?_eq_some_iff.1 hp).1
  have hin:In U (j:Int):=⟨by omega,by omega⟩
  have hpl : p.length = U.length := by
    have:=L.row j hj
    rw [List.getD_eq_getElem?_getD,hp] at this
    exact this
  refine⟨[.slice (some (v.rU j)) p.length (v.qU j)],rfl,⟨some (v.rU j),v.qU j,rfl,by rw [hpl];have:=h.capR _ hin;simpa using this,?_⟩,fun i u hu=>?_⟩
  · refine ⟨rfl, by omega, fun _ => ⟨v.rU j, rfl, fun i q hq => ?_⟩⟩
    have hi:i<p.length:=(List.getElem?_eq_some_iff.1 hq).1
    refine⟨[.int .i64 q],rfl,rfl,fun z u hu=>?_⟩
    have hz : z = 0 := by
      rcases z with _|z
      · rfl
      · simp at hu
    subst hz
    have hu':Value.int .i64 q=u:=by simpa using hu
    subst hu'
    have:=h.u2 j i hin ⟨by omega,by omega⟩
    simp only [Int.toNat_natCast] at this
    show W.cell? ((v.rU j).add (i*1+0))=_
    rw [Nat.mul_one,Nat.add_zero,this]
    simp [at2,List.getD_eq_getElem?_getD,hp,hq]
  · have hz : i = 0 := by
      rcases i with _|z
      · rfl
      · simp at hu
    subst hz
    have hu':Value.slice (some (v.rU j)) p.length (v.qU j)=u:=by simpa using hu
    subst hu'
    have:=h.u j hin
    simp only [Int.toNat_natCast] at this
    show W.cell? (v.aU.add (j*1+0))=_
    rw [Nat.mul_one,Nat.add_zero,this,hpl]
end
end View
end Go.Proofs.Ytdoomkcgdcfmlaa.Print
end
section
namespace Go.Proofs.Ytdoomkcgdcfmlaa.Print
open Go.RowKit Go.Proofs.YtdoomkcgdcfmlaaW.PrintWords Go.Proofs.YtdoomkcgdcfmlaaW.PrintLast Go.Proofs.YtdoomkcgdcfmlaaW.PrintMore
open Oml
theorem lit_C (W : World) (e : TypeId) (xs : List Int) (hm : xs.length ≤ 9223372036854775807) :
    Kd.C (Kd.int .i64) (W.alloc (.cells (nums .i64 xs).toArray e)) (some ⟨W.heap.size,0,none⟩) xs.length xs:=
  (Kd.R_reads' (Kd.R_of_own (ok:=fun _=>True) (own_lit W W.heap.size e .i64 xs (Nat.le_refl _) hm) (fun _ _=>trivial))).2.2
theorem isAnswer_eq (U : List (List Int)) (a : Int) : impl_isAnswer.f U a = some (inR U.length a) := by
  unfold impl_isAnswer.f inR
  by_cases h : a ≥ 0
  · rw [if_pos h]; simp [h]
  · rw [if_neg h]; simp; omega
theorem knows_nil (A : Option Addr) (n c : Nat) (w : World) :
    Calls Try.prog 78 #[.pointer none, .slice A n c] w fun e w' => e = .returned (.bool false) ∧ Below w.heap.size w w' := by
  go_enter Try.func78, Try.ntmps78
  go_wp2_with fail
  go_ret
  exact ⟨rfl, Below.refl _ _⟩
set_option maxHeartbeats 1000000 in
theorem knows_calls (g : Nat) (U : List (List Int)) (N : List Int) (v : Adr) (w : World) (L : Logic U N) (hV : View w g U N v) (A : Option Addr) (c : Nat) (xs : List Int) (n : Nat) (hn : xs.length = n)
    (hr:Kd.C (Kd.int .i64) w A n xs) (hs:n≤100) (b:Bool) (hb:xs.all (inR U.length)=b):
    Calls Try.prog 78 #[.pointer (some ⟨g,0,none⟩),.slice A n c] w fun e w'=>e= .returned (.bool b)∧Below w.heap.size w w':=by
  have hu70:=Try.underlying70
  have HV:=Aside0.mk hV
  have HR:=Aside0.mk hr
  have HL:=Aside0.mk L
  have HN:=Aside0.mk hn
  have HBB:=Aside0.mk hb
  clear hV hr L hn hb
  go_enter Try.func78,Try.ntmps78
  go_wp2_with fail
  go_loopg [11] (n+1) (fun kq v11 W=> ∃i m:Nat,v11= .int .i64 i∧Aside0 (i+kq=n+1)∧Aside0 (i≤n)∧Aside0 (∀j,j<i→inR U.length (at1 xs j)=true)∧W=w.drewN m)
  case atStart=>exact⟨0,0,rfl,⟨by omega⟩,⟨by omega⟩,⟨fun j hj=>absurd hj (by omega)⟩,rfl⟩
  case round =>
    obtain⟨i,m,rfl,HK,HK2,HS,rfl⟩:=hrel
    cases gk with
    |zero=>exact absurd HK.out (by have:=HK2.out;omega)
    |succ kn=>
    by_cases hlt:i<n
    · have hlt' : decide (i < n) = true := decide_eq_true hlt
      have HLT:=Aside0.mk hlt
      obtain⟨ad,e,hx⟩:=ints_cell HR.out i (by omega) (by omega)
      subst e
      simp only [Int.toNat_natCast] at hx
      have p1:(i<n)=True:=eq_true hlt
      have h0:=HV.out.f0
      have HUC:=Aside0.mk (HV.out.rowsU HL.out)
      clear hlt
      cases hi:inR U.length (at1 xs i) with
      | true =>
        have HI:=Aside0.mk hi
        have HA:=Aside0.mk (show impl_isAnswer.f U (at1 xs i)=some true by rw [isAnswer_eq,hi])
        clear hi
        go_wp2_with (go_at_call 123;(with_reducible refine(impl_isAnswer.calls _ _ U (at1 xs i) true _ ?s1 ?s2 HA.out).mono ?_);(case s1=> exact zq414);(case s2=>exact HV.out.capU);rintro e w' ⟨rfl,⟨nd,rfl⟩⟩)
        go_roundg kn
        case measure=>omega
        case rel => exact ⟨i + 1, _, by first | go_num | (rw [wrap_small (by omega) (by have := HLT.out; omega)]; go_num), ⟨by have := HK.out; omega⟩, ⟨by have := HLT.out; omega⟩, ⟨fun j hj => by
          rcases Nat.lt_or_ge j i with h|h
          · exact HS.out j h
          · obtain rfl : j = i := by omega
            exact HI.out⟩,rfl⟩
      | false =>
        have HI:=Aside0.mk hi
        have HA:=Aside0.mk (show impl_isAnswer.f U (at1 xs i)=some false by rw [isAnswer_eq,hi])
        clear hi
        have hbf : b = false := by
          rw [← HBB.out,Bool.eq_false_iff]
          intro h
          rw [List.all_eq_true] at h
          have hin:i<xs.length:=by have:=HN.out;have:=HLT.out;omega
          have:=h (xs[i]'hin) (List.getElem_mem _)
          have h2:=HI.out
          rw [show at1 xs i=xs[i]'hin by simp [at1,List.getD_eq_getElem?_getD,List.getElem?_eq_getElem hin],this] at h2
          exact absurd h2 (by simp)
        subst hbf
        go_wp2_with (go_at_call 123;(with_reducible refine(impl_isAnswer.calls _ _ U (at1 xs i) false _ ?s1 ?s2 HA.out).mono ?_);(case s1=> exact zq414);(case s2=>exact HV.out.capU);rintro e w' ⟨rfl,⟨nd,rfl⟩⟩)
        go_ret
        exact⟨rfl,zq336⟩
    · have hlt' : decide (i < n) = false := decide_eq_false hlt
      obtain rfl:i=n:=by have:=HK2.out;omega
      have hbt : b = true := by
        rw [← HBB.out,List.all_eq_true]
        intro x hx
        obtain⟨j,hj,rfl⟩:=List.mem_iff_getElem.1 hx
        have:=HS.out j (by have:=HN.out;omega)
        rwa [show at1 xs j=xs[j]'hj by simp [at1,List.getD_eq_getElem?_getD,List.getElem?_eq_getElem hj]] at this
      subst hbt
      clear hlt
      go_wp2_with fail
      go_ret
      exact⟨rfl,zq336⟩
def filI (n : Nat) (p : Nat → Bool) : List Int := ((List.range n).filter p).map fun (a : Nat) => (a : Int)
theorem filI_succ (n : Nat) (p : Nat → Bool) : filI (n + 1) p = if p n = true then filI n p ++ [(n : Int)] else filI n p := by
  unfold filI
  rw [List.range_succ, List.filter_append, List.map_append]
  cases h : p n <;> simp [h]
theorem filI_length (n : Nat) (p : Nat → Bool) : (filI n p).length ≤ n := by
  unfold filI
  rw [List.length_map]
  exact Nat.le_trans (List.length_filter_le _ _) (by simp)
theorem hiP_le {U : List (List Int)} {f : Nat → Nat} {a m : Nat} (h : ∀ b, f b ≤ m) : ∀ i, hiP U f a i ≤ m + 1
  | 0 => by unfold hiP; omega
  | i + 1 => by
    have := hiP_le h (U := U) (a := a) i
    have := h i
    unfold hiP
    split
    · split <;> omega
    · assumption
theorem hiF_le (U : List (List Int)) : ∀ k a, hiF U k a ≤ k
  | 0, _ => Nat.le_refl _
  | k + 1, a => hiP_le (fun b => hiF_le U k b) _
theorem hiP_congr {U : List (List Int)} {f f' : Nat → Nat} {a : Nat} : ∀ i, (∀ b, b < i → b ≠ a → leB U b a = true → f b = f' b) → hiP U f a i = hiP U f' a i
  |0,_=>rfl
  | i + 1, h => by
    have e:=hiP_congr i (fun b hb=>h b (by omega))
    unfold hiP
    by_cases c:i≠a∧leB U i a=true
    · rw [if_pos c,if_pos c,e,h i (by omega) c.1 c.2]
    · rw [if_neg c,if_neg c,e]
theorem hiP_none {U : List (List Int)} {f : Nat → Nat} {a : Nat} : ∀ i, (∀ b, b < i → b ≠ a → leB U b a = false) → hiP U f a i = 0
  |0,_=>rfl
  | i + 1, h => by
    unfold hiP
    rw [if_neg (fun c=>by rw [h i (by omega) c.1] at c;exact absurd c.2 (by simp))]
    exact hiP_none i (fun b hb=>h b (by omega))
def Deep (U : List (List Int)) : Nat → Nat → Prop
  | 0, a => ∀ b, b < U.length → b ≠ a → leB U b a = false
  | k + 1, a => ∀ b, b < U.length → b ≠ a → leB U b a = true → Deep U k b
set_option maxHeartbeats 1000000 in
set_option maxRecDepth 100000 in
theorem high_step (g : Nat) (U : List (List Int)) (N : List Int) (v : Adr) (w : World) (L : Logic U N) (hV : View w g U N v) (a : Nat) (ha : a < U.length) (f : Nat → Nat) (hf : ∀ b, f b ≤ 100)
    (ih: ∀b,b<U.length→b≠a→leB U b a=true→ ∀w',View w' g U N v→Calls Try.prog 86 #[.pointer (some ⟨g,0,none⟩),.int .i64 b] w' fun e w''=>e= .returned (.int .i64 (f b))∧Below w'.heap.size w' w''):
    Calls Try.prog 86 #[.pointer (some ⟨g,0,none⟩),.int .i64 a] w fun e w'=>e= .returned (.int .i64 (hiP U f a U.length))∧Below w.heap.size w w':=by
  have hu70:=Try.underlying70
  have HV:=Aside0.mk hV
  have HL:=Aside0.mk L
  have HF:=Aside0.mk hf
  have IH:=Aside0.mk ih
  have HA:=Aside0.mk ha
  have hf0:=hV.f0
  have HSM:=Aside0.mk L.small
  clear hV L hf ih ha
  go_enter Try.func86,Try.ntmps86
  go_wp2_with fail
  go_loopg [5,12] (U.length+1) (fun kq v5 v12 W=> ∃i:Nat,v12= .int .i64 i∧v5= .int .i64 (hiP U f a i)∧Aside0 (i+kq=U.length+1)∧Aside0 (i≤U.length)∧Aside0 (Below w.heap.size w W))
  case atStart=>exact⟨0,rfl,rfl,⟨by omega⟩,⟨by omega⟩,⟨zq397⟩⟩
  case round =>
    clear hf0
    obtain⟨i,rfl,rfl,HK,HK2,HB⟩:=hrel
    have HVr:=Aside0.mk (HV.out.below HB.out)
    have hf0:=HVr.out.f0
    cases gk with
    |zero=>exact absurd HK.out (by have:=HK2.out;omega)
    |succ kn=>
    by_cases hlt:i<U.length
    · have hlt' : decide (i < U.length) = true := decide_eq_true hlt
      have HLT:=Aside0.mk hlt
      have Ii:=Aside0.mk (show In U (i:Int) from ⟨by omega,by have:=HLT.out;omega⟩)
      have Ia:=Aside0.mk (show In U (a:Int) from ⟨by omega,by have:=HA.out;omega⟩)
      have k1:=HVr.out.u i Ii.out
      have k2:=HVr.out.u2 i a Ii.out Ia.out
      have v1:=HL.out.le_val Ii.out Ia.out
      simp only [Int.toNat_natCast] at k1 k2 v1
      rw [v1] at k2
      have ba:(a<U.length)=True:=eq_true HA.out
      have bi:(i<U.length)=True:=eq_true HLT.out
      clear v1 hlt
      by_cases hia:i=a
      · have ne : ((i : Int) != (a : Int)) = false := by simp [hia]
        have ne2:(i !=a)=false:=by simp [hia]
        have HP:=Aside0.mk (show hiP U f a (i+1)=hiP U f a i by rw [hiP];exact if_neg (fun c=>c.1 hia))
        clear hia k2
        go_wp2_with fail
        go_roundg kn
        case measure=>omega
        case rel=>exact⟨i+1,zq308,by rw [HP.out],⟨by have:=HK.out;omega⟩,⟨by have:=HLT.out;omega⟩,⟨zq268⟩⟩
      · have ne : ((i : Int) != (a : Int)) = true := by rw [bne_iff_ne]; omega
        have ne2:(i !=a)=true:=by rw [bne_iff_ne];exact hia
        have HNE:=Aside0.mk hia
        clear hia
        cases hle:leI U i a with
        | false =>
          have HP:=Aside0.mk (show hiP U f a (i+1)=hiP U f a i by rw [hiP];exact if_neg (fun c=>by have h2:=c.2;have h3:=hle;simp only [leI,Int.toNat_natCast] at h3;rw [h3] at h2;exact absurd h2 (by simp)))
          rw [hle] at k2
          clear hle
          go_wp2_with fail
          go_roundg kn
          case measure=>omega
          case rel=>exact⟨i+1,zq308,by rw [HP.out],⟨by have:=HK.out;omega⟩,⟨by have:=HLT.out;omega⟩,⟨zq268⟩⟩
        | true =>
          have HLE:=Aside0.mk (show leB U i a=true by have h3:=hle;simp only [leI,Int.toNat_natCast] at h3;exact h3)
          have HP:=Aside0.mk (show hiP U f a (i+1)=if hiP U f a i<f i+1 then f i+1 else hiP U f a i by rw [hiP];exact if_pos ⟨HNE.out,HLE.out⟩)
          obtain⟨x,hx⟩: ∃x,x=f i:=⟨_,rfl⟩
          obtain⟨y,hy⟩: ∃y,y=hiP U f a i:=⟨_,rfl⟩
          have HX:=Aside0.mk hx
          have HY:=Aside0.mk hy
          have hx1:x≤100:=by rw [hx];exact HF.out i
          have hxw:wrap64 ((x:Int)+1)=(x:Int)+1:=by unfold wrap64;omega
          rw [hle] at k2
          rw [← hy]
          clear hle hx hy
          by_cases hxy:y<x+1
          · have t1 : ((y : Int) < (x : Int) + 1) = True := eq_true (by omega)
            have HQ:=Aside0.mk (show hiP U f a (i+1)=x+1 by rw [HP.out,← HX.out,← HY.out,if_pos hxy])
            clear hxy
            go_wp2_with (go_at_call 86;(with_reducible refine(IH.out i HLT.out HNE.out HLE.out _ ?s1).mono ?_);(case s1=> exact zq381);rintro e w1 ⟨rfl,hb⟩;rw [← HX.out];have HB1:=Aside0.mk (below_step zq268 hb);clear hb)
            go_roundg kn
            case measure=>omega
            case rel=>exact⟨i+1,zq308,by rw [HQ.out];go_num,⟨by have:=HK.out;omega⟩,⟨by have:=HLT.out;omega⟩,⟨zq408⟩⟩
          · have t1 : ((y : Int) < (x : Int) + 1) = False := eq_false (by omega)
            have HQ:=Aside0.mk (show hiP U f a (i+1)=y by rw [HP.out,← HX.out,← HY.out,if_neg hxy])
            clear hxy
            go_wp2_with (go_at_call 86;(with_reducible refine(IH.out i HLT.out HNE.out HLE.out _ ?s1).mono ?_);(case s1=> exact zq381);rintro e w1 ⟨rfl,hb⟩;rw [← HX.out];have HB1:=Aside0.mk (below_step zq268 hb);clear hb)
            go_roundg kn
            case measure=>omega
            case rel=>exact⟨i+1,zq308,by rw [HQ.out],⟨by have:=HK.out;omega⟩,⟨by have:=HLT.out;omega⟩,⟨zq408⟩⟩
    · have hlt' : decide (i < U.length) = false := decide_eq_false hlt
      obtain rfl:i=U.length:=by have:=HK2.out;omega
      clear hlt
      go_wp2_with fail
      go_ret
      exact⟨rfl,zq268⟩
theorem high_calls (g : Nat) (U : List (List Int)) (N : List Int) (v : Adr) (L : Logic U N) : ∀ k, k ≤ 99 → ∀ a, a < U.length → Deep U k a → ∀ w, View w g U N v →
    Calls Try.prog 86 #[.pointer (some ⟨g,0,none⟩),.int .i64 a] w fun e w'=>e= .returned (.int .i64 (hiF U k a))∧Below w.heap.size w w'
  | 0, _, a, ha, hd, w, hV => by
    have:=high_step g U N v w L hV a ha (fun _=>0) (fun _=>by omega) (fun b hb hne hle=>by have:=hd b hb hne;rw [this] at hle;exact absurd hle (by simp))
    rw [hiP_none _ (fun b hb hne=>hd b hb hne)] at this
    exact this
  |k+1,hk,a,ha,hd,w,hV=>high_step g U N v w L hV a ha (hiF U k) (fun b=>Nat.le_trans (hiF_le U k b) (by omega)) (fun b hb hne hle w' hV'=>high_calls g U N v L k (by omega) b hb (hd b hb hne hle) w' hV')
end Go.Proofs.Ytdoomkcgdcfmlaa.Print
end
section
namespace Go.Proofs.Ytdoomkcgdcfmlaa.Print
open Go.RowKit Go.Proofs.YtdoomkcgdcfmlaaW.PrintWords Go.Proofs.YtdoomkcgdcfmlaaW.PrintLast Go.Proofs.YtdoomkcgdcfmlaaW.PrintMore
def spec_l2Both.f (k : Nat) (l0_0 : List (List Int)) (l0_1 : List Int) (a1 : Int) (a2 : Int) : Option (Bool) := (spec_LogicOk.f k l0_0 l0_1).bind fun t601 => (if t601 = true then ((spec_l1In.f a1 0 (wrap64 ((l0_1.length : Int) - 1))).bind fun t602 => (if t602 = true then ((spec_l1In.f a2 0 (wrap64 ((l0_1.length : Int) - 1))).bind fun t603 => (some t603)) else (some false))) else (some false))
set_option maxHeartbeats 8000000 in
set_option maxRecDepth 100000 in
theorem spec_l2Both.calls (k : Nat) (A0_0 : Option Addr) (c0_0 : Nat) (l0_0 : List (List Int)) (A0_1 : Option Addr) (c0_1 : Nat) (l0_1 : List Int) (a1 : Int) (a2 : Int) (r : Bool) (w : World) (hr0_0 : Kd.C (Kd.slice 3 (Kd.int .i64)) w A0_0 l0_0.length l0_0) (hc0_0 : l0_0.length ≤ c0_0) (hr0_1 : Kd.C (Kd.int .i64) w A0_1 l0_1.length l0_1) (hc0_1 : l0_1.length ≤ c0_1) (h : spec_l2Both.f k l0_0 l0_1 a1 a2 = some r) :
  Calls Try.prog 80 #[.agg #[.slice A0_0 l0_0.length c0_0, .slice A0_1 l0_1.length c0_1], .int .i64 a1, .int .i64 a2] w fun e w' => e = .returned (.bool r) ∧ Below w.heap.size w w' := by
 have hu30:=Try.underlying30;have a8:=zqm hr0_0;have a9:=zqm hc0_0;clear hr0_0 hc0_0;have b0:=zqm hr0_1;have b1:=zqm hc0_1;clear hr0_1 hc0_1;have HB:=zqm (Below.refl w.heap.size w);have H:((spec_LogicOk.f k l0_0 l0_1).bind fun b2=>(if b2=true then((spec_l1In.f a1 0 (wrap64 ((l0_1.length:Int) - 1))).bind fun a6=>(if a6=true then((spec_l1In.f a2 0 (wrap64 ((l0_1.length:Int) - 1))).bind fun a4=>(some a4)) else(some false))) else(some false)))=some r:=h;clear h;replace H:=Option.bind_eq_some_iff.mp H;obtain⟨b2,b4,H⟩:=H;replace H:(if b2=true then((spec_l1In.f a1 0 (wrap64 ((l0_1.length:Int) - 1))).bind fun a6=>(if a6=true then((spec_l1In.f a2 0 (wrap64 ((l0_1.length:Int) - 1))).bind fun a4=>(some a4)) else(some false))) else(some false))=some r:=H;have A4:=zqm b4;clear b4
 by_cases c5:b2=true
 ·subst c5;(have H1:((spec_l1In.f a1 0 (wrap64 ((l0_1.length:Int) - 1))).bind fun a6=>(if a6=true then((spec_l1In.f a2 0 (wrap64 ((l0_1.length:Int) - 1))).bind fun a4=>(some a4)) else(some false)))=some r:=by rw [if_pos rfl] at H;exact H);clear H;have H:=H1;clear H1;replace H:=Option.bind_eq_some_iff.mp H;obtain⟨a6,b5,H⟩:=H;replace H:(if a6=true then((spec_l1In.f a2 0 (wrap64 ((l0_1.length:Int) - 1))).bind fun a4=>(some a4)) else(some false))=some r:=H;have A6:=zqm b5;clear b5
  by_cases c7:a6=true
  ·subst c7;(have H1:((spec_l1In.f a2 0 (wrap64 ((l0_1.length:Int) - 1))).bind fun a4=>(some a4))=some r:=by rw [if_pos rfl] at H;exact H);clear H;have H:=H1;clear H1;replace H:=Option.bind_eq_some_iff.mp H;obtain⟨a4,b6,H⟩:=H;replace H:(some a4)=some r:=H;have A8:=zqm b6;clear b6;obtain rfl:=Option.some.inj H
   go_enter Try.func80,Try.ntmps80
   go_wp2_with (first|((with_reducible refine gate_dst (N:=3) rfl ?_);(try(refine gate_guard (by rfl) ?_;dsimp only));refine box_event ?hg (N:=3) ?hd (cs:= #[.slice A0_0 l0_0.length c0_0,.slice A0_1 l0_1.length c0_1]) (t:=30) ?hr ?_;(case hd=>rfl);(case hg=>rfl);(case hr=>first|(go_simp;done)|(go_simp;rfl));intro a3 hg w9 hbox hb;have a7:=zqm (below_step zq0 hb);have a0:=zqm (hbox);have b3:=zqm ((by rw [hg];exact(below_size zq0):w.heap.size≤a3));have a5:=zqm ((by rw [hg];exact(below_size zq0):w.heap.size≤a3));clear HB;have HB:=a7;clear a7 hb hbox hg;have c1:w9.cell? ⟨a3,0,none⟩=some (.slice A0_0 l0_0.length c0_0):=(blk_cell a0.out 0).trans rfl;have c2:w9.cell? ⟨a3,1,none⟩=some (.slice A0_1 l0_1.length c0_1):=(blk_cell a0.out 1).trans rfl;have c3:=blk_frozen a0.out 0;have c4:=blk_frozen a0.out 1)|((with_reducible refine gate_callee (f:=42) rfl ?_);refine goesL_ (some 8) rfl rfl Try.func42 zqk rfl #[.agg #[.slice A0_0 l0_0.length c0_0,.slice A0_1 l0_1.length c0_1]] rfl zq1 ?_;(with_reducible refine(spec_LogicOk.calls k _ _ l0_0 _ _ l0_1 true _ ?side1 ?side2 ?side3 ?side4 A4.out).mono ?_);(case side1=> exact zq26);(case side2=>exact a9.out);(case side3=> exact zq45);(case side4=>exact b1.out);rintro e b7 ⟨rfl,hb⟩;refine⟨_,rfl,?_⟩;replace a0:=zqm (blk_below (g:=a3) (o:= .cells #[.slice A0_0 l0_0.length c0_0,.slice A0_1 l0_1.length c0_1] 30 (0,0)) zq2 hb);replace HB:=zqm (below_step zq18 hb);clear hb;have c6:b7.cell? ⟨a3,0,none⟩=some (.slice A0_0 l0_0.length c0_0):=(blk_cell a0.out 0).trans rfl;have c8:b7.cell? ⟨a3,1,none⟩=some (.slice A0_1 l0_1.length c0_1):=(blk_cell a0.out 1).trans rfl;have c9:=blk_frozen a0.out 0;have d0:=blk_frozen a0.out 1)|(go_at_call 94;(with_reducible refine(spec_l1In.calls a1 0 (wrap64 ((l0_1.length:Int) - 1)) true _ A6.out).mono ?_);rintro e w' ⟨rfl,⟨nd,rfl⟩⟩)|(go_at_call 94;(with_reducible refine(spec_l1In.calls a2 0 (wrap64 ((l0_1.length:Int) - 1)) a4 _ A8.out).mono ?_);rintro e w' ⟨rfl,⟨nd,rfl⟩⟩))
   go_ret
   exact⟨zq11,zq18⟩
  ·replace c7:=Bool.eq_false_iff.mpr c7;subst c7;(have H1:(some false)=some r:=by rw [if_neg (show¬(false=true) by decide)] at H;exact H);clear H;have H:=H1;clear H1;obtain rfl:=Option.some.inj H
   go_enter Try.func80,Try.ntmps80
   go_wp2_with (first|((with_reducible refine gate_dst (N:=3) rfl ?_);(try(refine gate_guard (by rfl) ?_;dsimp only));refine box_event ?hg (N:=3) ?hd (cs:= #[.slice A0_0 l0_0.length c0_0,.slice A0_1 l0_1.length c0_1]) (t:=30) ?hr ?_;(case hd=>rfl);(case hg=>rfl);(case hr=>first|(go_simp;done)|(go_simp;rfl));intro a3 hg b8 hbox hb;have a7:=zqm (below_step zq0 hb);have a0:=zqm (hbox);have b3:=zqm ((by rw [hg];exact(below_size zq0):w.heap.size≤a3));have a5:=zqm ((by rw [hg];exact(below_size zq0):w.heap.size≤a3));clear HB;have HB:=a7;clear a7 hb hbox hg;have d1:b8.cell? ⟨a3,0,none⟩=some (.slice A0_0 l0_0.length c0_0):=(blk_cell a0.out 0).trans rfl;have d2:b8.cell? ⟨a3,1,none⟩=some (.slice A0_1 l0_1.length c0_1):=(blk_cell a0.out 1).trans rfl;have d3:=blk_frozen a0.out 0;have d4:=blk_frozen a0.out 1)|((with_reducible refine gate_callee (f:=42) rfl ?_);refine goesL_ (some 8) rfl rfl Try.func42 zqk rfl #[.agg #[.slice A0_0 l0_0.length c0_0,.slice A0_1 l0_1.length c0_1]] rfl zq1 ?_;(with_reducible refine(spec_LogicOk.calls k _ _ l0_0 _ _ l0_1 true _ ?side1 ?side2 ?side3 ?side4 A4.out).mono ?_);(case side1=> exact zq26);(case side2=>exact a9.out);(case side3=> exact zq45);(case side4=>exact b1.out);rintro e b9 ⟨rfl,hb⟩;refine⟨_,rfl,?_⟩;replace a0:=zqm (blk_below (g:=a3) (o:= .cells #[.slice A0_0 l0_0.length c0_0,.slice A0_1 l0_1.length c0_1] 30 (0,0)) zq2 hb);replace HB:=zqm (below_step zq18 hb);clear hb;have d5:b9.cell? ⟨a3,0,none⟩=some (.slice A0_0 l0_0.length c0_0):=(blk_cell a0.out 0).trans rfl;have d6:b9.cell? ⟨a3,1,none⟩=some (.slice A0_1 l0_1.length c0_1):=(blk_cell a0.out 1).trans rfl;have d7:=blk_frozen a0.out 0;have d8:=blk_frozen a0.out 1)|(go_at_call 94;(with_reducible refine(spec_l1In.calls a1 0 (wrap64 ((l0_1.length:Int) - 1)) false _ A6.out).mono ?_);rintro e w' ⟨rfl,⟨nd,rfl⟩⟩))
   go_ret
   exact⟨zq11,zq18⟩
 ·replace c5:=Bool.eq_false_iff.mpr c5;subst c5;(have H1:(some false)=some r:=by rw [if_neg (show¬(false=true) by decide)] at H;exact H);clear H;have H:=H1;clear H1;obtain rfl:=Option.some.inj H
  go_enter Try.func80,Try.ntmps80
  go_wp2_with (first|((with_reducible refine gate_dst (N:=3) rfl ?_);(try(refine gate_guard (by rfl) ?_;dsimp only));refine box_event ?hg (N:=3) ?hd (cs:= #[.slice A0_0 l0_0.length c0_0,.slice A0_1 l0_1.length c0_1]) (t:=30) ?hr ?_;(case hd=>rfl);(case hg=>rfl);(case hr=>first|(go_simp;done)|(go_simp;rfl));intro a3 hg c0 hbox hb;have a7:=zqm (below_step zq0 hb);have a0:=zqm (hbox);have b3:=zqm ((by rw [hg];exact(below_size zq0):w.heap.size≤a3));have a5:=zqm ((by rw [hg];exact(below_size zq0):w.heap.size≤a3));clear HB;have HB:=a7;clear a7 hb hbox hg;have d9:c0.cell? ⟨a3,0,none⟩=some (.slice A0_0 l0_0.length c0_0):=(blk_cell a0.out 0).trans rfl;have e0:c0.cell? ⟨a3,1,none⟩=some (.slice A0_1 l0_1.length c0_1):=(blk_cell a0.out 1).trans rfl;have e1:=blk_frozen a0.out 0;have e2:=blk_frozen a0.out 1)|((with_reducible refine gate_callee (f:=42) rfl ?_);refine goesL_ (some 8) rfl rfl Try.func42 zqk rfl #[.agg #[.slice A0_0 l0_0.length c0_0,.slice A0_1 l0_1.length c0_1]] rfl zq1 ?_;(with_reducible refine(spec_LogicOk.calls k _ _ l0_0 _ _ l0_1 false _ ?side1 ?side2 ?side3 ?side4 A4.out).mono ?_);(case side1=> exact zq26);(case side2=>exact a9.out);(case side3=> exact zq45);(case side4=>exact b1.out);rintro e e3 ⟨rfl,hb⟩;refine⟨_,rfl,?_⟩;replace a0:=zqm (blk_below (g:=a3) (o:= .cells #[.slice A0_0 l0_0.length c0_0,.slice A0_1 l0_1.length c0_1] 30 (0,0)) zq2 hb);replace HB:=zqm (below_step zq18 hb);clear hb))
  go_ret
  exact⟨zq11,zq18⟩
end Go.Proofs.Ytdoomkcgdcfmlaa.Print
end
section
namespace Go.Proofs.Ytdoomkcgdcfmlaa.Print
open Go.RowKit Go.Proofs.YtdoomkcgdcfmlaaW.PrintWords Go.Proofs.YtdoomkcgdcfmlaaW.PrintLast Go.Proofs.YtdoomkcgdcfmlaaW.PrintMore
open Oml
theorem spec_l2Both.ev (U : List (List Int)) (N : List Int) (a b : Int) : Ev (fun k => spec_l2Both.f k U N a b) (logicB U N && (inR U.length a && inR U.length b)) := by
  unfold spec_l2Both.f
  refine Ev.bind (spec_LogicOk.ev U N) ?_
  cases hl:logicB U N with
  | false => repeat (first | ((with_reducible refine Ev.ite_pos ?_ ?_); (first | assumption | (focus omega) | (focus (simp; done)))) | ((with_reducible refine Ev.ite_neg ?_ ?_); (first | assumption | (focus omega) | (focus (simp; done)))))
             exact Ev.now _
  | true =>
    have L:=logicB_iff.1 hl
    have hs:=L.small
    have hp:=L.pos
    have hln:=L.len
    have e : ∀ c : Int, (decide (0 ≤ c) && decide (c ≤ wrap64 ((N.length : Int) - 1))) = inR U.length c := by
      intro c
      unfold inR
      rw [wrap_small (by omega) (by omega)]
      congr 1
      rw [decide_eq_decide];omega
    repeat(first|((with_reducible refine Ev.ite_pos ?_ ?_);(first|assumption|(focus omega)|(focus (simp;done))))|((with_reducible refine Ev.ite_neg ?_ ?_);(first|assumption|(focus omega)|(focus (simp;done)))))
    simp only [l1In_eq,e]
    refine Ev.pbind rfl ?_
    cases ha:inR U.length a with
    | false => repeat (first | ((with_reducible refine Ev.ite_pos ?_ ?_); (first | assumption | (focus omega) | (focus (simp; done)))) | ((with_reducible refine Ev.ite_neg ?_ ?_); (first | assumption | (focus omega) | (focus (simp; done)))))
               exact Ev.eq (Ev.now _) (by simp)
    | true => repeat (first | ((with_reducible refine Ev.ite_pos ?_ ?_); (first | assumption | (focus omega) | (focus (simp; done)))) | ((with_reducible refine Ev.ite_neg ?_ ?_); (first | assumption | (focus omega) | (focus (simp; done)))))
              exact Ev.eq (Ev.now _) (by simp)
end Go.Proofs.Ytdoomkcgdcfmlaa.Print
end
section
namespace Go.Proofs.Ytdoomkcgdcfmlaa.Print
open Go.RowKit Go.Proofs.YtdoomkcgdcfmlaaW.PrintWords Go.Proofs.YtdoomkcgdcfmlaaW.PrintLast Go.Proofs.YtdoomkcgdcfmlaaW.PrintMore
def spec_NotOf.f (k : Nat) (l0_0 : List (List Int)) (l0_1 : List Int) (a1 : Int) : Option (Int) := (spec_l2Both.f k l0_0 l0_1 a1 a1).bind fun t849 => (if t849 = true then (if 0 ≤ a1 then (if a1 < (l0_1.length : Int) then (some (rd l0_1 a1)) else (none)) else (none)) else (some (-1)))
set_option maxHeartbeats 8000000 in
set_option maxRecDepth 100000 in
theorem spec_NotOf.calls (k : Nat) (A0_0 : Option Addr) (c0_0 : Nat) (l0_0 : List (List Int)) (A0_1 : Option Addr) (c0_1 : Nat) (l0_1 : List Int) (a1 : Int) (r : Int) (w : World) (hr0_0 : Kd.C (Kd.slice 3 (Kd.int .i64)) w A0_0 l0_0.length l0_0) (hc0_0 : l0_0.length ≤ c0_0) (hr0_1 : Kd.C (Kd.int .i64) w A0_1 l0_1.length l0_1) (hc0_1 : l0_1.length ≤ c0_1) (h : spec_NotOf.f k l0_0 l0_1 a1 = some r) :
  Calls Try.prog 96 #[.agg #[.slice A0_0 l0_0.length c0_0, .slice A0_1 l0_1.length c0_1], .int .i64 a1] w fun e w' => e = .returned (.int .i64 r) ∧ Below w.heap.size w w' := by
 have hu30:=Try.underlying30;have b0:=zqm hr0_0;have b1:=zqm hc0_0;clear hr0_0 hc0_0;have a5:=zqm hr0_1;have b2:=zqm hc0_1;clear hr0_1 hc0_1;have HB:=zqm (Below.refl w.heap.size w);have H:((spec_l2Both.f k l0_0 l0_1 a1 a1).bind fun a6=>(if a6=true then(if 0≤a1 then(if a1<(l0_1.length:Int) then(some (rd l0_1 a1)) else(none)) else(none)) else(some (-1))))=some r:=h;clear h;replace H:=Option.bind_eq_some_iff.mp H;obtain⟨a6,b4,H⟩:=H;replace H:(if a6=true then(if 0≤a1 then(if a1<(l0_1.length:Int) then(some (rd l0_1 a1)) else(none)) else(none)) else(some (-1)))=some r:=H;have A3:=zqm b4;clear b4
 by_cases c4:a6=true
 ·subst c4;(have H1:(if 0≤a1 then(if a1<(l0_1.length:Int) then(some (rd l0_1 a1)) else(none)) else(none))=some r:=by rw [if_pos rfl] at H;exact H);clear H;have H:=H1;clear H1
  by_cases c5:0≤a1
  ·rw [if_pos c5] at H;have d3:decide (0≤a1)=true:=decide_eq_true c5;clear c5
   by_cases c6:a1<(l0_1.length:Int)
   ·rw [if_pos c6] at H;have d4:decide (a1<(l0_1.length:Int))=true:=decide_eq_true c6;clear c6;obtain rfl:=Option.some.inj H
    go_enter Try.func96,Try.ntmps96
    go_wp2_with (first|((with_reducible refine gate_dst (N:=2) rfl ?_);refine box_event ?hg (N:=2) ?hd (cs:= #[.slice A0_0 l0_0.length c0_0,.slice A0_1 l0_1.length c0_1]) (t:=30) ?hr ?_;(case hd=>rfl);(case hg=>rfl);(case hr=>first|(go_simp;done)|(go_simp;rfl));intro a2 hg w7 hbox hb;have a7:=zqm (below_step zq0 hb);have a0:=zqm (hbox);have b3:=zqm ((by rw [hg];exact(below_size zq0):w.heap.size≤a2));have a3:=zqm ((by rw [hg];exact(below_size zq0):w.heap.size≤a2));clear HB;have HB:=a7;clear a7 hb hbox hg;have c8:w7.cell? ⟨a2,0,none⟩=some (.slice A0_0 l0_0.length c0_0):=(blk_cell a0.out 0).trans rfl;have c9:w7.cell? ⟨a2,1,none⟩=some (.slice A0_1 l0_1.length c0_1):=(blk_cell a0.out 1).trans rfl;have d0:=blk_frozen a0.out 0;have d1:=blk_frozen a0.out 1)|((with_reducible refine gate_callee (f:=80) rfl ?_);refine goesL_ (some 8) rfl rfl Try.func80 zqk rfl #[.agg #[.slice A0_0 l0_0.length c0_0,.slice A0_1 l0_1.length c0_1],.int .i64 a1,.int .i64 a1] rfl zq1 ?_;(with_reducible refine(spec_l2Both.calls k _ _ l0_0 _ _ l0_1 a1 a1 true _ ?side1 ?side2 ?side3 ?side4 A3.out).mono ?_);(case side1=> exact zq45);(case side2=>exact b1.out);(case side3=> exact zq38);(case side4=>exact b2.out);rintro e w9 ⟨rfl,hb⟩;refine⟨_,rfl,?_⟩;replace a0:=zqm (blk_below (g:=a2) (o:= .cells #[.slice A0_0 l0_0.length c0_0,.slice A0_1 l0_1.length c0_1] 30 (0,0)) zq2 hb);replace HB:=zqm (below_step zq21 hb);clear hb;have b7:w9.cell? ⟨a2,0,none⟩=some (.slice A0_0 l0_0.length c0_0):=(blk_cell a0.out 0).trans rfl;have b8:w9.cell? ⟨a2,1,none⟩=some (.slice A0_1 l0_1.length c0_1):=(blk_cell a0.out 1).trans rfl;have b9:=blk_frozen a0.out 0;have c0:=blk_frozen a0.out 1;have a8:0≤(a1:Int):=zqo;have a9:a1<(l0_1.length:Int):=zqo;obtain⟨d2,b6,a4⟩:=Kd.at_int a5.out a1 a8 a9;cases b6;replace a4:=(HB.out.cell (World.block_lt_of_cell? w _ a4)).trans a4;replace a8:=eq_true a8;replace a9:=eq_true a9))
    go_ret
    exact⟨zq11,zq21⟩
   ·rw [if_neg c6] at H;exact absurd H (by simp)
  ·rw [if_neg c5] at H;exact absurd H (by simp)
 ·replace c4:=Bool.eq_false_iff.mpr c4;subst c4;(have H1:(some (-1))=some r:=by rw [if_neg (show¬(false=true) by decide)] at H;exact H);clear H;have H:=H1;clear H1;obtain rfl:=Option.some.inj H
  go_enter Try.func96,Try.ntmps96
  go_wp2_with (first|((with_reducible refine gate_dst (N:=2) rfl ?_);refine box_event ?hg (N:=2) ?hd (cs:= #[.slice A0_0 l0_0.length c0_0,.slice A0_1 l0_1.length c0_1]) (t:=30) ?hr ?_;(case hd=>rfl);(case hg=>rfl);(case hr=>first|(go_simp;done)|(go_simp;rfl));intro a2 hg b5 hbox hb;have a7:=zqm (below_step zq0 hb);have a0:=zqm (hbox);have b3:=zqm ((by rw [hg];exact(below_size zq0):w.heap.size≤a2));have a3:=zqm ((by rw [hg];exact(below_size zq0):w.heap.size≤a2));clear HB;have HB:=a7;clear a7 hb hbox hg;have c1:b5.cell? ⟨a2,0,none⟩=some (.slice A0_0 l0_0.length c0_0):=(blk_cell a0.out 0).trans rfl;have c2:b5.cell? ⟨a2,1,none⟩=some (.slice A0_1 l0_1.length c0_1):=(blk_cell a0.out 1).trans rfl;have c3:=blk_frozen a0.out 0;have c7:=blk_frozen a0.out 1)|((with_reducible refine gate_callee (f:=80) rfl ?_);refine goesL_ (some 8) rfl rfl Try.func80 zqk rfl #[.agg #[.slice A0_0 l0_0.length c0_0,.slice A0_1 l0_1.length c0_1],.int .i64 a1,.int .i64 a1] rfl zq1 ?_;(with_reducible refine(spec_l2Both.calls k _ _ l0_0 _ _ l0_1 a1 a1 false _ ?side1 ?side2 ?side3 ?side4 A3.out).mono ?_);(case side1=> exact zq45);(case side2=>exact b1.out);(case side3=> exact zq38);(case side4=>exact b2.out);rintro e d5 ⟨rfl,hb⟩;refine⟨_,rfl,?_⟩;replace a0:=zqm (blk_below (g:=a2) (o:= .cells #[.slice A0_0 l0_0.length c0_0,.slice A0_1 l0_1.length c0_1] 30 (0,0)) zq2 hb);replace HB:=zqm (below_step zq21 hb);clear hb))
  go_ret
  exact⟨zq11,zq21⟩
end Go.Proofs.Ytdoomkcgdcfmlaa.Print
end
section
namespace Go.Proofs.Ytdoomkcgdcfmlaa.Print
open Go.RowKit Go.Proofs.YtdoomkcgdcfmlaaW.PrintWords Go.Proofs.YtdoomkcgdcfmlaaW.PrintLast Go.Proofs.YtdoomkcgdcfmlaaW.PrintMore
open Oml
theorem spec_NotOf.ev (U : List (List Int)) (N : List Int) (a : Int) : Ev (fun k => spec_NotOf.f k U N a) (if logicB U N = true then (if inR U.length a = true then notI N a else -1) else -1) := by
  unfold spec_NotOf.f
  refine Ev.bind (spec_l2Both.ev U N a a) ?_
  cases hl:logicB U N with
  | false => repeat (first | ((with_reducible refine Ev.ite_pos ?_ ?_); (first | assumption | (focus omega) | (focus (simp; done)))) | ((with_reducible refine Ev.ite_neg ?_ ?_); (first | assumption | (focus omega) | (focus (simp; done)))))
             exact Ev.now _
  | true =>
    have L:=logicB_iff.1 hl
    cases ha:inR U.length a with
    | false => repeat (first | ((with_reducible refine Ev.ite_pos ?_ ?_); (first | assumption | (focus omega) | (focus (simp; done)))) | ((with_reducible refine Ev.ite_neg ?_ ?_); (first | assumption | (focus omega) | (focus (simp; done)))))
               exact Ev.now _
    | true =>
      have ia:=inR_iff.1 ha
      have h0:=ia.1
      have h1:=ia.2
      have hl2:=L.len
      obtain⟨x,rfl⟩: ∃x:Nat,a=x:=⟨a.toNat,by omega⟩
      repeat(first|((with_reducible refine Ev.ite_pos ?_ ?_);(first|assumption|(focus omega)|(focus (simp;done))))|((with_reducible refine Ev.ite_neg ?_ ?_);(first|assumption|(focus omega)|(focus (simp;done)))))
      exact Ev.eq (Ev.now _) (by rw [rd_nat];rfl)
theorem filt_lt {p q : Nat → Bool} : ∀ l : List Nat, (∀ x, x ∈ l → p x = true → q x = true) → (∃ x, x ∈ l ∧ q x = true ∧ p x = false) → (l.filter p).length < (l.filter q).length
  | [],_,⟨x,hx,_⟩=>absurd hx (by simp)
  | y :: l, h, ⟨x, hx, h1, h2⟩ => by
    have hle : ∀ l : List Nat, (∀ x, x ∈ l → p x = true → q x = true) → (l.filter p).length ≤ (l.filter q).length := by
      intro l
      induction l with
      |nil=>intro _;exact Nat.le_refl _
      | cons z l ih =>
        intro hh
        have:=ih fun x hx=>hh x (List.mem_cons_of_mem _ hx)
        cases hz:p z with
        |true=>simp [hz,hh z (by simp) hz];exact this
        |false=>cases hq:q z <;> simp [hz,hq] <;> omega
    have hl:=hle l fun x hx=>h x (List.mem_cons_of_mem _ hx)
    rcases List.mem_cons.1 hx with rfl|hx
    · simp [h1,h2];omega
    · have := filt_lt l (fun x hx => h x (List.mem_cons_of_mem _ hx)) ⟨x, hx, h1, h2⟩
      cases hz:p y with
      |true=>simp [hz,h y (by simp) hz];exact this
      |false=>cases hq:q y <;> simp [hz,hq] <;> omega
def cntB (U : List (List Int)) (a : Nat) : Nat := ((List.range U.length).filter fun b => !(b == a) && leB U b a).length
theorem cntB_lt {U : List (List Int)} (O : Order U) {a b : Nat} (ha : a < U.length) (hb : b < U.length) (hne : b ≠ a) (hle : leB U b a = true) : cntB U b < cntB U a := by
  refine filt_lt _ (fun x hx h=>?_) ⟨b,by simpa using hb,by simp [hne,hle],by simp⟩
  simp only [Bool.and_eq_true,Bool.not_eq_true',beq_eq_false_iff_ne] at h ⊢
  have hx':x<U.length:=by simpa using hx
  refine⟨fun e=>?_,O.trans x b a hx' hb ha h.2 hle⟩
  subst e
  exact h.1 (O.anti x b hx' hb h.2 hle)
theorem deep_cnt {U : List (List Int)} (O : Order U) : ∀ k a, a < U.length → cntB U a ≤ k → Deep U k a
  | 0, a, ha, h => fun b hb hne => by
    cases e:leB U b a with
    |false=>rfl
    |true=>have:=cntB_lt O ha hb hne e;omega
  |k+1,a,ha,h=>fun b hb hne hle=>deep_cnt O k b hb (by have:=cntB_lt O ha hb hne hle;omega)
theorem deep_all {U : List (List Int)} (O : Order U) {a : Nat} (ha : a < U.length) : Deep U U.length a :=
  deep_cnt O _ a ha (by unfold cntB; exact Nat.le_trans (List.length_filter_le _ _) (by simp))
def hiI (U : List (List Int)) (a : Int) : Int := (hiF U U.length a.toNat : Nat)
theorem high_in (g : Nat) (U : List (List Int)) (N : List Int) (v : Adr) (L : Logic U N) {a : Int} (ia : In U a) (w : World) (hV : View w g U N v) :
    Calls Try.prog 86 #[.pointer (some ⟨g,0,none⟩),.int .i64 a] w fun e w'=>e= .returned (.int .i64 (hiI U a))∧Below w.heap.size w w':=by
  obtain⟨x,rfl⟩: ∃x:Nat,a=x:=⟨a.toNat,by have:=ia.1;omega⟩
  have hx:x<U.length:=by have:=ia.2;omega
  exact high_calls g U N v L U.length (by have:=L.small;omega) x hx (deep_all L.toOrder hx) w hV
theorem spec_high_step {U : List (List Int)} (O : Order U) {a : Nat} (ha : a < U.length) {f : Nat → Nat} (hf : ∀ b, f b ≤ 100) (ih : ∀ b, b < U.length → b ≠ a → leB U b a = true → Ev (fun k => spec_l8High.f k U b) (f b : Int)) :
    Ev (fun k=>spec_l8High.f k U a) (hiP U f a U.length:Int):=by
  have hs:=O.small
  refine Ev.succ ?_
  simp only [spec_l8High.f]
  refine Ev.loop (g:=fun k s i=>spec_l8High.l0 k U a s i) U.length (fun i s=>s=(hiP U f a i:Int)) (by omega) (fun s h=>?_) (fun i s hi h=>?_) 0 (by simp [hiP])
  · subst h
    refine Ev.succ ?_
    simp only [spec_l8High.l0]
    repeat(first|((with_reducible refine Ev.ite_pos ?_ ?_);(first|assumption|(focus omega)|(focus (simp;done))))|((with_reducible refine Ev.ite_neg ?_ ?_);(first|assumption|(focus omega)|(focus (simp;done)))))
    exact Ev.now _
  · subst h
    refine⟨_,rfl,fun K=>Ev.succ ?_⟩
    have hrow:=O.row i hi
    have via:=O.val hi ha
    simp only [spec_l8High.l0,rdL_nat,rd_nat,rd_row,hrow,via]
    by_cases e:i=a
    · repeat (first | ((with_reducible refine Ev.ite_pos ?_ ?_); (first | assumption | (focus omega) | (focus (simp; done)))) | ((with_reducible refine Ev.ite_neg ?_ ?_); (first | assumption | (focus omega) | (focus (simp; done)))))
      rw [show hiP U f a (i+1)=hiP U f a i by rw [hiP];exact if_neg fun c=>c.1 e] at K
      exact K
    · repeat (first | ((with_reducible refine Ev.ite_pos ?_ ?_); (first | assumption | (focus omega) | (focus (simp; done)))) | ((with_reducible refine Ev.ite_neg ?_ ?_); (first | assumption | (focus omega) | (focus (simp; done)))))
      cases hle:leB U i a with
      | false =>
        repeat(first|((with_reducible refine Ev.ite_pos ?_ ?_);(first|assumption|(focus omega)|(focus (simp;done))))|((with_reducible refine Ev.ite_neg ?_ ?_);(first|assumption|(focus omega)|(focus (simp;done)))))
        rw [show hiP U f a (i+1)=hiP U f a i by rw [hiP];exact if_neg fun c=>by rw [hle] at c;exact absurd c.2 (by simp)] at K
        exact K
      | true =>
        repeat(first|((with_reducible refine Ev.ite_pos ?_ ?_);(first|assumption|(focus omega)|(focus (simp;done))))|((with_reducible refine Ev.ite_neg ?_ ?_);(first|assumption|(focus omega)|(focus (simp;done)))))
        refine Ev.bind (ih i hi e hle) ?_
        have hx1:=hf i
        have hx2:=hiP_le (U:=U) (a:=a) hf i
        rw [show wrap64 ((f i:Int)+1)=((f i+1:Nat):Int) by unfold wrap64;omega]
        rw [show hiP U f a (i+1)=if hiP U f a i<f i+1 then f i+1 else hiP U f a i by rw [hiP];exact if_pos ⟨e,hle⟩] at K
        rw [show mx (hiP U f a i:Int) ((f i+1:Nat):Int)=((if hiP U f a i<f i+1 then f i+1 else hiP U f a i:Nat):Int) by unfold mx;split <;> split <;> omega]
        exact K
theorem spec_l8High.ev {U : List (List Int)} (O : Order U) : ∀ k, k ≤ 99 → ∀ a, a < U.length → Deep U k a → Ev (fun m => spec_l8High.f m U a) (hiF U k a : Int)
  | 0, _, a, ha, hd => by
    have:=spec_high_step O ha (f:=fun _=>0) (fun _=>by omega) (fun b hb hne hle=>by have:=hd b hb hne;rw [this] at hle;exact absurd hle (by simp))
    rw [hiP_none _ (fun b hb hne=>hd b hb hne)] at this
    exact this
  |k+1,hk,a,ha,hd=>spec_high_step O ha (fun b=>Nat.le_trans (hiF_le U k b) (by omega)) (fun b hb hne hle=>spec_l8High.ev O k (by omega) b hb (hd b hb hne hle))
theorem spec_high_in {U : List (List Int)} (O : Order U) {a : Int} (ia : In U a) : Ev (fun m => spec_l8High.f m U a) (hiI U a) := by
  obtain⟨x,rfl⟩: ∃x:Nat,a=x:=⟨a.toNat,by have:=ia.1;omega⟩
  have hx:x<U.length:=by have:=ia.2;omega
  exact spec_l8High.ev O U.length (by have:=O.small;omega) x hx (deep_all O hx)
end Go.Proofs.Ytdoomkcgdcfmlaa.Print
end
section
namespace Go.Proofs.Ytdoomkcgdcfmlaa.Print
open Go.RowKit Go.Proofs.YtdoomkcgdcfmlaaW.PrintWords Go.Proofs.YtdoomkcgdcfmlaaW.PrintLast Go.Proofs.YtdoomkcgdcfmlaaW.PrintMore
open Oml
section
variable {U : List (List Int)} {N : List Int} (L : Logic U N)
theorem fin_of {a : Int} (ia : In U a) : ∃ x : Fin U.length, a = ((x.1 : Nat) : Int) := ⟨⟨a.toNat, by have := ia.1; have := ia.2; omega⟩, by have := ia.1; show a = ((a.toNat : Nat) : Int); omega⟩
theorem fin_of_nat {i : Nat} (h : i < U.length) : ∃ x : Fin U.length, i = x.1 := ⟨⟨i, h⟩, rfl⟩
theorem in_fin (x : Fin U.length) : In U ((x.1 : Nat) : Int) := ⟨by omega, by have := x.2; omega⟩
theorem fin_inj {x y : Fin U.length} : (((x.1 : Nat) : Int) = ((y.1 : Nat) : Int)) ↔ x = y := by
  constructor
  · intro h; exact Fin.ext (by omega)
  · intro h; rw [h]
theorem fin_beq (x y : Fin U.length) : (((x.1 : Nat) : Int) == ((y.1 : Nat) : Int)) = decide (x = y) := by
  rw [Bool.eq_iff_iff, beq_iff_eq, decide_eq_true_eq]; exact fin_inj
theorem not_fin (x : Fin U.length) : notI N x.1 = (((L.ol.neg x).1 : Nat) : Int) := by
  show at1 N ((x.1 : Nat) : Int).toNat = _
  rw [Int.toNat_natCast, L.ng_eq]; rfl
theorem no_fin : noI U = (((L.ol.bot).1 : Nat) : Int) := by
  unfold noI; rw [L.no_eq]; rfl
theorem yes_fin : yesI U N = (((L.ol.top).1 : Nat) : Int) := by
  unfold yesI; rw [no_fin L, not_fin L]; rfl
theorem leB_fin (x y : Fin U.length) : leB U x.1 y.1 = true ↔ L.ol.le x y := Iff.rfl
end
end Go.Proofs.Ytdoomkcgdcfmlaa.Print
end
section
namespace Go.Proofs.Ytdoomkcgdcfmlaa.Print
open Go.RowKit Go.Proofs.YtdoomkcgdcfmlaaW.PrintWords Go.Proofs.YtdoomkcgdcfmlaaW.PrintLast Go.Proofs.YtdoomkcgdcfmlaaW.PrintMore
open Oml
theorem hiP_ge {U : List (List Int)} {f : Nat → Nat} {a : Nat} : ∀ m i, i < m → i ≠ a → leB U i a = true → f i + 1 ≤ hiP U f a m
  |0,i,h,_,_=>absurd h (Nat.not_lt_zero _)
  | m + 1, i, h, hne, hle => by
    unfold hiP
    by_cases e:i=m
    · subst e
      rw [if_pos ⟨hne,hle⟩]
      split <;> omega
    · have := hiP_ge (f := f) m i (by omega) hne hle
      split
      · split <;> omega
      · exact this
theorem hiP_at {U : List (List Int)} {f : Nat → Nat} {a : Nat} : ∀ m, hiP U f a m ≠ 0 → ∃ i, i < m ∧ i ≠ a ∧ leB U i a = true ∧ hiP U f a m = f i + 1
  |0,h=>absurd rfl h
  | m + 1, h => by
    unfold hiP at h ⊢
    by_cases c:m≠a∧leB U m a=true
    · rw [if_pos c] at h ⊢
      by_cases d:hiP U f a m<f m+1
      · rw [if_pos d]
        exact⟨m,by omega,c.1,c.2,rfl⟩
      · rw [if_neg d] at h ⊢
        obtain⟨i,h1,h2⟩:=hiP_at m h
        exact⟨i,by omega,h2⟩
    · rw [if_neg c] at h ⊢
      obtain⟨i,h1,h2⟩:=hiP_at m h
      exact⟨i,by omega,h2⟩
theorem deep_stable {U : List (List Int)} : ∀ k a, Deep U k a → ∀ j, hiF U (k + j) a = hiF U k a
  |0,a,h,0=>rfl
  | 0, a, h, j + 1 => by
    rw [Nat.zero_add]
    show hiP U (hiF U j) a U.length=0
    exact hiP_none _ (fun b hb hne=>h b hb hne)
  | k + 1, a, h, j => by
    rw [show k+1+j=(k+j)+1 by omega]
    show hiP U (hiF U (k+j)) a U.length=hiP U (hiF U k) a U.length
    exact hiP_congr _ (fun b hb hne hle=>deep_stable k b (h b hb hne hle) j)
section
variable {U : List (List Int)} {N : List Int} (L : Logic U N)
include L
theorem hi_below {a b : Nat} (ha : a < U.length) (hb : b < U.length) (hne : b ≠ a) (hle : leB U b a = true) : hiF U (U.length - 1) b = hiF U U.length b := by
  have h1:=cntB_lt L.toOrder ha hb hne hle
  have h2:cntB U a≤U.length:=by unfold cntB;exact Nat.le_trans (List.length_filter_le _ _) (by simp)
  have h3:=deep_stable _ _ (deep_cnt L.toOrder (U.length - 1) b hb (by omega)) 1
  rw [show U.length - 1+1=U.length by have:=L.pos;omega] at h3
  exact h3.symm
theorem hi_unfold (a : Nat) : hiF U U.length a = hiP U (hiF U (U.length - 1)) a U.length := by
  obtain ⟨m, hm⟩ : ∃ m, U.length = m + 1 := ⟨U.length - 1, by have := L.pos; omega⟩
  rw [hm]
  show hiP U (hiF U m) a U.length = _
  rw [hm]; rfl
theorem hi_high : L.ol.High (hi U) where
  mono := fun x y hxy hne => by
    have hn:x.1≠y.1:=fun e=>hne (Fin.ext e)
    show hiF U U.length x.1<hiF U U.length y.1
    rw [← hi_below L y.2 x.2 hn hxy,hi_unfold L y.1]
    exact hiP_ge _ _ x.2 hn hxy
  step := fun y hy => by
    have hy':hiF U U.length y.1≠0:=hy
    rw [hi_unfold L] at hy'
    obtain⟨i,h1,h2,h3,h4⟩:=hiP_at _ hy'
    refine⟨⟨i,h1⟩,h3,fun e=>h2 (congrArg Fin.val e),?_⟩
    show hiF U U.length i+1=hiF U U.length y.1
    rw [hi_unfold L y.1,h4,hi_below L y.2 h1 h2 h3]
omit L in
theorem hiI_fin (x : Fin U.length) : hiI U ((x.1 : Nat) : Int) = (hi U x : Nat) := by unfold hiI hi; rw [Int.toNat_natCast]
end
end Go.Proofs.Ytdoomkcgdcfmlaa.Print
end
section
namespace Go.Proofs.Ytdoomkcgdcfmlaa.Print
open Go.RowKit Go.Proofs.YtdoomkcgdcfmlaaW.PrintWords Go.Proofs.YtdoomkcgdcfmlaaW.PrintLast Go.Proofs.YtdoomkcgdcfmlaaW.PrintMore
def spec_l20Two.f (k : Nat) (s0_0 : List Int) (s0_1 : Int) (a1 : Int) : Option ((List (List Int)) × List Int × Int × Int × Int) := (spec_l20Logic.f k s0_0 s0_1 a1).bind fun bt468 => ((spec_l20Rd_pick.f k s0_0 bt468.2.2 (mx (bt468.2.1.length : Int) 1)).bind fun bt476 => ((spec_l20Rd_pick.f k s0_0 bt476.2 40).bind fun bt478 => ((spec_l20Rd_pick.f k s0_0 bt478.2 (mx (bt468.2.1.length : Int) 1)).bind fun bt480 => ((spec_l20Rd_pick.f k s0_0 bt480.2 40).bind fun bt482 => (some (bt468.1, bt468.2.1, wrap64 (bt476.1 + (wrap64 ((wrap64 (Int.tdiv bt478.1 39)) * 12))), wrap64 (bt480.1 - (wrap64 ((wrap64 (Int.tdiv bt482.1 39)) * 12))), bt482.2))))))
def spec_l20Two.T3 : Bool × List (List Nat × List Nat) := (true, [([], []), ([], []), ([], []), ([1, 2], [1, 2]), ([], []), ([4, 3], [4]), ([5], [5]), ([6], [6]), ([3, 7], [3, 7]), ([], []), ([], []), ([9, 10, 5], [9, 10]), ([], []), ([12, 11], [12]), ([13], [13]), ([14], [14]), ([11, 15], [11, 15]), ([0, 13, 0], [0]), ([8, 17, 0, 1, 2, 3, 4, 5, 6, 7, 8, 17], [8]), ([16, 18, 0, 1, 2, 3, 4, 5, 6, 7, 8, 9, 10, 11, 12, 13, 14, 15, 16, 17, 18], [16])])
def spec_l20Two.B3 : List Nat := [0, 0, 0, 6, 0, 30, 62, 126, 254, 0, 0, 1598, 0, 7742, 15934, 32318, 65086, 15935, 147455, 524287]
theorem spec_l20Two.tab3 : rtab .any (opsOf Try.f76 3) = spec_l20Two.T3 := by kernel_rfl
theorem spec_l20Two.bits3 : waitsOk spec_l20Two.T3.2 spec_l20Two.B3 = true := by kernel_rfl
set_option maxHeartbeats 8000000 in
set_option maxRecDepth 100000 in
theorem spec_l20Two.calls (k : Nat) (g : Nat) (s0_0 : List Int) (s0_1 : Int) (a1 : Int) (r1 : List (List Int)) (r2 : List Int) (r3 : Int) (r4 : Int) (r5 : Int) (w0 w : World) (hI : IsS87 w0 w g s0_0 s0_1) (hB : Below w0.heap.size w0 w) (h : spec_l20Two.f k s0_0 s0_1 a1 = some (r1, r2, r3, r4, r5)) :
  Calls Try.prog 76 #[.pointer (some ⟨g, 0, none⟩), .int .i64 a1] w fun e w' => ∃ v0_ v1_ : Value, e = .returned (.tuple #[.agg #[v0_, v1_], .int .i64 r3, .int .i64 r4]) ∧ Kd.S (Kd.slice 3 (Kd.int .i64)) 28 w' w.heap.size (fun k_ => some k_ ≠ (v1_ : Value).ownBlock) v0_ r1 ∧ Kd.Q (Kd.int .i64) 3 w' w.heap.size (fun _ => True) v1_ r2 ∧ IsS87 w0 w' g s0_0 r5 ∧ Below w0.heap.size w0 w' ∧ KeepBut w w' g none := by
 have hu30:=Try.underlying30;have a0:=zqm hI;have HK:=zqm (KeepBut.refl w g none);have HL:=zqm hB.size;clear hI;have e8:=zqm hB.size;have HB:=zqm hB;clear hB;have H:((spec_l20Logic.f k s0_0 s0_1 a1).bind fun d2=>((spec_l20Rd_pick.f k s0_0 d2.2.2 (mx (d2.2.1.length:Int) 1)).bind fun c2=>((spec_l20Rd_pick.f k s0_0 c2.2 40).bind fun c0=>((spec_l20Rd_pick.f k s0_0 c0.2 (mx (d2.2.1.length:Int) 1)).bind fun b7=>((spec_l20Rd_pick.f k s0_0 b7.2 40).bind fun b2=>(some (d2.1,d2.2.1,wrap64 (c2.1+(wrap64 ((wrap64 (Int.tdiv c0.1 39))*12))),wrap64 (b7.1 - (wrap64 ((wrap64 (Int.tdiv b2.1 39))*12))),b2.2)))))))=some (r1,r2,r3,r4,r5):=h;clear h;replace H:=Option.bind_eq_some_iff.mp H;obtain⟨⟨a8,a4,c6⟩,e9,H⟩:=H;replace H:((spec_l20Rd_pick.f k s0_0 c6 (mx (a4.length:Int) 1)).bind fun c2=>((spec_l20Rd_pick.f k s0_0 c2.2 40).bind fun c0=>((spec_l20Rd_pick.f k s0_0 c0.2 (mx (a4.length:Int) 1)).bind fun b7=>((spec_l20Rd_pick.f k s0_0 b7.2 40).bind fun b2=>(some (a8,a4,wrap64 (c2.1+(wrap64 ((wrap64 (Int.tdiv c0.1 39))*12))),wrap64 (b7.1 - (wrap64 ((wrap64 (Int.tdiv b2.1 39))*12))),b2.2))))))=some (r1,r2,r3,r4,r5):=H;have A3:=zqm e9;clear e9;obtain⟨c7,c8⟩: ∃j_:Int,(mx (a4.length:Int) 1)=j_:=⟨_,rfl⟩;(replace H:((spec_l20Rd_pick.f k s0_0 c6 (c7)).bind fun c2=>((spec_l20Rd_pick.f k s0_0 c2.2 40).bind fun c0=>((spec_l20Rd_pick.f k s0_0 c0.2 (c7)).bind fun b7=>((spec_l20Rd_pick.f k s0_0 b7.2 40).bind fun b2=>(some (a8,a4,wrap64 (c2.1+(wrap64 ((wrap64 (Int.tdiv c0.1 39))*12))),wrap64 (b7.1 - (wrap64 ((wrap64 (Int.tdiv b2.1 39))*12))),b2.2))))))=some (r1,r2,r3,r4,r5):=by first|(rw [c8] at H;exact H)|(simp only [c8] at H ⊢;exact H));(try rw [c8] at A3);(try(have hji4l:1≤c7:=by(rw [← c8];unfold mx;(repeat' split) <;> omega)));(try(have hji4m:0≤c7:=by omega));have g4:(if(a4.length:Int)<1 then 1 else(a4.length:Int))=c7:=c8;replace H:=Option.bind_eq_some_iff.mp H;obtain⟨⟨d3,d4⟩,f0,H⟩:=H;replace H:((spec_l20Rd_pick.f k s0_0 d4 40).bind fun c0=>((spec_l20Rd_pick.f k s0_0 c0.2 (c7)).bind fun b7=>((spec_l20Rd_pick.f k s0_0 b7.2 40).bind fun b2=>(some (a8,a4,wrap64 (d3+(wrap64 ((wrap64 (Int.tdiv c0.1 39))*12))),wrap64 (b7.1 - (wrap64 ((wrap64 (Int.tdiv b2.1 39))*12))),b2.2)))))=some (r1,r2,r3,r4,r5):=H;have A5:=zqm f0;clear f0;replace H:=Option.bind_eq_some_iff.mp H;obtain⟨⟨e2,d5⟩,f1,H⟩:=H;replace H:((spec_l20Rd_pick.f k s0_0 d5 (c7)).bind fun b7=>((spec_l20Rd_pick.f k s0_0 b7.2 40).bind fun b2=>(some (a8,a4,wrap64 (d3+(wrap64 ((wrap64 (Int.tdiv e2 39))*12))),wrap64 (b7.1 - (wrap64 ((wrap64 (Int.tdiv b2.1 39))*12))),b2.2))))=some (r1,r2,r3,r4,r5):=H;have A6:=zqm f1;clear f1;replace H:=Option.bind_eq_some_iff.mp H;obtain⟨⟨e3,d6⟩,f2,H⟩:=H;replace H:((spec_l20Rd_pick.f k s0_0 d6 40).bind fun b2=>(some (a8,a4,wrap64 (d3+(wrap64 ((wrap64 (Int.tdiv e2 39))*12))),wrap64 (e3 - (wrap64 ((wrap64 (Int.tdiv b2.1 39))*12))),b2.2)))=some (r1,r2,r3,r4,r5):=H;have A7:=zqm f2;clear f2;replace H:=Option.bind_eq_some_iff.mp H;obtain⟨⟨e4,e5⟩,f3,H⟩:=H;replace H:(some (a8,a4,wrap64 (d3+(wrap64 ((wrap64 (Int.tdiv e2 39))*12))),wrap64 (e3 - (wrap64 ((wrap64 (Int.tdiv e4 39))*12))),e5))=some (r1,r2,r3,r4,r5):=H;have A8:=zqm f3;clear f3;simp only [Option.some.injEq,Prod.mk.injEq] at H;obtain⟨rfl,rfl,rfl,rfl,rfl⟩:=H
 go_enter Try.func76,Try.ntmps76
 (try go_wp2_with (first|((with_reducible refine gate_dst (N:=4) rfl ?_);refine box_event ?hg (N:=4) ?hd (cs:= #[.slice none 0 0,.slice none 0 0]) (t:=30) ?hr ?_;(case hd=>rfl);(case hg=>rfl);(case hr=>first|(go_simp;done)|(go_simp;rfl));intro a5 hg w9 hbox hb;have d7:=zqm (IsS87.below zq159 hb);have d8:=zqm (KeepBut.trans zq50 (KeepBut.of_below hb g none) (.inl rfl));replace HB:=zqm (below_step zq134 hb);have a6:=zqm (hbox);have b9:=zqm ((by rw [hg];exact(keep_size (w:=w) (g:=g) (row:=none) zq50):w.heap.size≤a5));have c3:=zqm ((Nat.le_trans e8.out (by rw [hg];exact(keep_size (w:=w) (g:=g) (row:=none) zq50):w.heap.size≤a5):w0.heap.size≤a5));have a7:=zqm ((by rw [hg];exact Nat.ne_of_lt (IsS87.lt (show IsS87 w0 _ g s0_0 s0_1 from by repeat(first|(with_reducible first|exact a0.out|apply IsS87.alloc|apply IsS87.drewN|apply IsS87.drew|apply IsS87.set_1)|exact a0.out))):g≠a5));have c4:=zqm ((by rw [hg];exact Nat.ne_of_gt (IsS87.lt (show IsS87 w0 _ g s0_0 s0_1 from by repeat(first|(with_reducible first|exact a0.out|apply IsS87.alloc|apply IsS87.drewN|apply IsS87.drew|apply IsS87.set_1)|exact a0.out))):a5≠g));clear a0 HK;have a0:=d7;have HK:=d8;clear d7 d8 hb hbox hg)|((with_reducible refine gate_callee (f:=85) rfl ?_);refine goesL_ (some 11) rfl rfl Try.func85 zqk rfl #[.pointer (some ⟨g,0,none⟩),.int .i64 a1] rfl zq1 ?_;(with_reducible refine(spec_l20Logic.calls k g s0_0 s0_1 a1 a8 a4 c6 w0 _ ?side1 ?side2 A3.out).mono ?_);(case side1=> exact zq346);(case side2=> exact zq333);rintro e h1 ⟨g9,h0,rfl,f4,f5,hi,hb,hk⟩;refine⟨_,rfl,?_⟩;replace a6:=zqm (KeepBut.blk hk (g':=a5) (o:= .cells #[.slice none 0 0,.slice none 0 0] 30 (0,0)) zq153 c4.out (by simp));have b3:=zqm (Kd.S_lower f4 (keep_size (w:=w) (g:=g) (row:=none) zq132));have b4:=zqm (Kd.Q_lower f5 (keep_size (w:=w) (g:=g) (row:=none) zq132));replace HK:=zqm (KeepBut.trans zq132 hk (.inl rfl));replace HB:=zqm (hb);replace a0:=zqm (hi);clear hb hk hi f4 f5)|((with_reducible refine gate_dst (N:=7) rfl ?_);refine box_event ?hg (N:=7) ?hd (cs:= #[.slice none 0 0,.slice none 0 0]) (t:=30) ?hr ?_;(case hd=>rfl);(case hg=>rfl);(case hr=>first|(go_simp;done)|(go_simp;rfl));intro a2 hg d1 hbox hb;replace b3:=zqm (Kd.S_below zq171 hb);replace b4:=zqm (Kd.Q_below zq275 hb);have d9:=zqm (IsS87.below zq346 hb);have e0:=zqm (blk_below (g:=a5) (o:= .cells #[.slice none 0 0,.slice none 0 0] 30 (0,0)) zq153 hb);have e1:=zqm (KeepBut.trans zq132 (KeepBut.of_below hb g none) (.inl rfl));replace HB:=zqm (below_step zq333 hb);have a3:=zqm (hbox);have c9:=zqm ((by rw [hg];exact(keep_size (w:=w) (g:=g) (row:=none) zq132):w.heap.size≤a2));have d0:=zqm ((Nat.le_trans e8.out (by rw [hg];exact(keep_size (w:=w) (g:=g) (row:=none) zq132):w.heap.size≤a2):w0.heap.size≤a2));have c1:=zqm ((by rw [hg];exact Nat.ne_of_lt (blk_lt (g:=a5) (o:= .cells #[.slice none 0 0,.slice none 0 0] 30 (0,0)) zq153):a5≠a2));have b8:=zqm ((by rw [hg];exact Nat.ne_of_gt (blk_lt (g:=a5) (o:= .cells #[.slice none 0 0,.slice none 0 0] 30 (0,0)) zq153):a2≠a5));have a9:=zqm ((by rw [hg];exact Nat.ne_of_lt (IsS87.lt (show IsS87 w0 _ g s0_0 c6 from by repeat(first|(with_reducible first|exact a0.out|apply IsS87.alloc|apply IsS87.drewN|apply IsS87.drew|apply IsS87.set_1|refine IsS87.far ?_ a7.out _)|exact a0.out))):g≠a2));have c5:=zqm ((by rw [hg];exact Nat.ne_of_gt (IsS87.lt (show IsS87 w0 _ g s0_0 c6 from by repeat(first|(with_reducible first|exact a0.out|apply IsS87.alloc|apply IsS87.drewN|apply IsS87.drew|apply IsS87.set_1|refine IsS87.far ?_ a7.out _)|exact a0.out))):a2≠g));clear a0 a6 HK;have a0:=d9;have a6:=e0;have HK:=e1;clear d9 e0 e1 hb hbox hg;obtain⟨b0,b1,f7⟩:=Kd.S_slice b3.out;subst f7;have g5:=b8.out;have g6:=c1.out;have g7:=c5.out;have g8:=a9.out;have f9:d1.cell? ⟨a2,0,none⟩=some (.slice none 0 0):=(blk_cell a3.out 0).trans rfl;have g0:d1.cell? ⟨a2,1,none⟩=some (.slice none 0 0):=(blk_cell a3.out 1).trans rfl;have g1:=blk_frozen a3.out 0;have g2:=blk_frozen a3.out 1;obtain⟨b5,b6,f8,_⟩:=Kd.Q_slice b4.out;subst f8)))
 have d7:Aside0 (Kd.S (Kd.slice 3 (Kd.int .i64)) 28 ((d1.setCell ⟨a2,0,none⟩ (.slice b0 a8.length b1)).setCell ⟨a2,1,none⟩ (.slice b5 a4.length b6)) w.heap.size (fun k_=>some k_≠(.slice b5 a4.length b6:Value).ownBlock) (.slice b0 a8.length b1) a8):=⟨by(with_reducible repeat(first|apply Kd.S_alloc|apply Kd.S_drewN|apply Kd.S_drew));exact Kd.S_mono (Kd.S_far (p:=⟨a2,1,none⟩) (Kd.S_far (p:=⟨a2,0,none⟩) (Kd.S_types b3.out a3.out (by decide)) (fun _ hk=>hk.2) (.slice b0 a8.length b1)) (fun _ hk=>hk.2) (.slice b5 a4.length b6)) (fun _ hk=>hk.1)⟩;have d8:Aside0 (Kd.Q (Kd.int .i64) 3 ((d1.setCell ⟨a2,0,none⟩ (.slice b0 a8.length b1)).setCell ⟨a2,1,none⟩ (.slice b5 a4.length b6)) w.heap.size (fun _=>True) (.slice b5 a4.length b6) a4):=⟨by(with_reducible repeat(first|apply Kd.Q_alloc|apply Kd.Q_drewN|apply Kd.Q_drew));exact Kd.Q_mono (Kd.Q_far (p:=⟨a2,1,none⟩) (Kd.Q_far (p:=⟨a2,0,none⟩) (Kd.Q_types b4.out a3.out (by decide)) (fun _ hk=>hk.2) (.slice b0 a8.length b1)) (fun _ hk=>hk.2) (.slice b5 a4.length b6)) (fun _ hk=>trivial)⟩;have d9:Aside0 (((d1.setCell ⟨a2,0,none⟩ (.slice b0 a8.length b1)).setCell ⟨a2,1,none⟩ (.slice b5 a4.length b6)).heap[a5]? =some (.cells #[.slice none 0 0,.slice none 0 0] 30 (0,0))):=⟨by(with_reducible repeat(first|refine blk_drewN ?_ _|refine blk_drew ?_|refine blk_alloc ?_ _));refine blk_far ?_ c1.out _;(with_reducible repeat(first|refine blk_drewN ?_ _|refine blk_drew ?_|refine blk_alloc ?_ _));refine blk_far ?_ c1.out _;(with_reducible repeat(first|refine blk_drewN ?_ _|refine blk_drew ?_|refine blk_alloc ?_ _));exact a6.out⟩;have e0:Aside0 (((d1.setCell ⟨a2,0,none⟩ (.slice b0 a8.length b1)).setCell ⟨a2,1,none⟩ (.slice b5 a4.length b6)).heap[a2]? =some (.cells #[.slice b0 a8.length b1,.slice b5 a4.length b6] 30 (0,0))):=⟨by(with_reducible repeat(first|refine blk_drewN ?_ _|refine blk_drew ?_|refine blk_alloc ?_ _));refine blk_put (cs:= #[.slice b0 a8.length b1,.slice none 0 0]) ?_ 1 _ rfl;(with_reducible repeat(first|refine blk_drewN ?_ _|refine blk_drew ?_|refine blk_alloc ?_ _));refine blk_put (cs:= #[.slice none 0 0,.slice none 0 0]) ?_ 0 _ rfl;(with_reducible repeat(first|refine blk_drewN ?_ _|refine blk_drew ?_|refine blk_alloc ?_ _));exact a3.out⟩;have e1:Aside0 (IsS87 w0 ((d1.setCell ⟨a2,0,none⟩ (.slice b0 a8.length b1)).setCell ⟨a2,1,none⟩ (.slice b5 a4.length b6)) g s0_0 c6):=⟨zq117⟩;have e6:Aside0 (KeepBut w ((d1.setCell ⟨a2,0,none⟩ (.slice b0 a8.length b1)).setCell ⟨a2,1,none⟩ (.slice b5 a4.length b6)) g none):=⟨zq118⟩;have e7:Aside0 (Below w0.heap.size w0 ((d1.setCell ⟨a2,0,none⟩ (.slice b0 a8.length b1)).setCell ⟨a2,1,none⟩ (.slice b5 a4.length b6))):=⟨zq102⟩;generalize ((d1.setCell ⟨a2,0,none⟩ (.slice b0 a8.length b1)).setCell ⟨a2,1,none⟩ (.slice b5 a4.length b6))=g3 at d7 d8 d9 e0 e1 e6 e7 ⊢;have b3:=d7;have b4:=d8;have a6:=d9;have a3:=e0;have a0:=e1;have HK:=e6;have HB:=e7;clear d7 d8 d9 e0 e1 e6 e7;replace b3:=zqm (Kd.S_drew b3.out);replace b4:=zqm (Kd.Q_drew b4.out);replace a6:=zqm (blk_drew a6.out);replace a3:=zqm (blk_drew a3.out);replace a0:=zqm (IsS87.drew a0.out);replace HK:=zqm (keep_drew HK.out);replace HB:=zqm (below_drew1 HB.out);refine start_ (n:=20) (S:=fun w'=>w'.cell? ⟨a2,0,none⟩=some (.slice b0 a8.length b1)∧w'.cell? ⟨a2,1,none⟩=some (.slice b5 a4.length b6)) (ds:= []) (zqb 20 0) zqk rfl rfl ⟨(blk_cell a3.out 0).trans rfl,(blk_cell a3.out 1).trans rfl⟩ (fun hHeld=>?_);refine with_tabW spec_l20Two.tab3 spec_l20Two.bits3 (fun HT_ HW_=>?_);generalize g3.drew=h2 at b3 b4 a6 a3 a0 HK HB hHeld ⊢;refine pure_ (i:=1) (N:=some 17) (v:=?_) (a':=?_) (zqb 20 2) rfl rfl (any_of HT_.out zqk) (fun _ _ _ h=>h) (Or.inl ⟨by rfl,?_⟩) ?_ ?_;rotate_left
 ·exact zqt
 rotate_left
 ·exact zqs
 refine pure_ (i:=2) (N:=some 18) (v:=?_) (a':=?_) (zqb 20 6) rfl rfl (any_of HT_.out zqk) (fun _ _ _ h=>h) (Or.inl ⟨by rfl,?_⟩) ?_ ?_;rotate_left
 ·exact zqt
 rotate_left
 ·exact zqs
 refine pure_ (i:=4) (N:=some 20) (v:=?_) (a':=?_) (zqb 20 22) rfl rfl (any_of HT_.out zqk) (fun _ _ _ h=>h) (Or.inl ⟨by rfl,?_⟩) ?_ ?_;rotate_left
 ·exact zqt
 rotate_left
 ·exact zqs
 refine pure_ (i:=9) (N:=some 25) (v:=?_) (a':=?_) (zqb 20 534) rfl rfl (any_of HT_.out zqk) (fun _ _ _ h=>h) (Or.inl ⟨by rfl,?_⟩) ?_ ?_;rotate_left
 ·exact zqt
 rotate_left
 ·exact zqs
 refine pure_ (i:=10) (N:=some 26) (v:=?_) (a':=?_) (zqb 20 1558) rfl rfl (any_of HT_.out zqk) (fun _ _ _ h=>h) (Or.inl ⟨by rfl,?_⟩) ?_ ?_;rotate_left
 ·exact zqt
 rotate_left
 ·exact zqs
 refine pure_ (i:=12) (N:=some 28) (v:=?_) (a':=?_) (zqb 20 5654) rfl rfl (any_of HT_.out zqk) (fun _ _ _ h=>h) (Or.inl ⟨by rfl,?_⟩) ?_ ?_;rotate_left
 ·exact zqt
 rotate_left
 ·exact zqs
 refine take_ (i:=0) (N:=some 16) (v:=?_) (a':=?_) (zqb 20 5655) rfl rfl (take_ofW HT_.out HW_.out zqk) (fun _ _ _ h=>h) (Or.inl ⟨by rfl,?_⟩) hHeld ?_ ?_;rotate_left
 ·rintro w' ⟨s0,s1⟩;go_simp;with_reducible rfl
 rotate_left
 ·exact zqs
 refine one_ (i:=3) (N:=some 19) (zqb 20 5663) rfl rfl (one_of HT_.out zqk) (by decide) (fun K hK=>?_);refine goes_ Try.func103 zqk rfl #[.pointer (some ⟨g,0,none⟩),.int .i64 c7] (by rfl) rfl rfl zq354 ?_;(with_reducible refine(spec_l20Rd_pick.calls k g s0_0 c6 c7 d3 d4 w0 _ ?side1 ?side2 A5.out).mono ?_);(case side1=> exact zq117);(case side2=> exact zq102);rintro e h3 ⟨rfl,hi,hb,hk⟩;refine⟨_,rfl,?_⟩;replace a6:=zqm (KeepBut.blk hk (g':=a5) (o:= .cells #[.slice none 0 0,.slice none 0 0] 30 (0,0)) zq153 c4.out (by simp));replace b3:=zqm (Kd.S_mono (Kd.S_keep (IsS87.apartS (show IsS87 w0 _ g s0_0 c6 from by repeat(first|(with_reducible first|exact a0.out|apply IsS87.alloc|apply IsS87.drewN|apply IsS87.drew|apply IsS87.set_1|refine IsS87.far ?_ a7.out _|refine IsS87.far ?_ a9.out _)|exact a0.out)) zq171 (by decide)) hk (fun _ h=>h.2)) (fun _ h=>h.1));replace b4:=zqm (Kd.Q_mono (Kd.Q_keep (IsS87.apartQ (show IsS87 w0 _ g s0_0 c6 from by repeat(first|(with_reducible first|exact a0.out|apply IsS87.alloc|apply IsS87.drewN|apply IsS87.drew|apply IsS87.set_1|refine IsS87.far ?_ a7.out _|refine IsS87.far ?_ a9.out _)|exact a0.out)) zq275 (by decide)) hk (fun _ h=>h.2)) (fun _ h=>h.1));replace a3:=zqm (KeepBut.blk hk (g':=a2) (o:= .cells #[.slice b0 a8.length b1,.slice b5 a4.length b6] 30 (0,0)) zq311 c5.out (by simp));replace HK:=zqm (KeepBut.trans zq118 hk (.inl rfl));replace HB:=zqm (hb);replace a0:=zqm (hi);clear hb hk hi;refine hK.out _ _ ⟨(blk_cell a3.out 0).trans rfl,(blk_cell a3.out 1).trans rfl⟩ (fun hHeld=>?_);clear hK K;refine norm_ (a':=?_) ?_ ?_;rotate_left
 ·show Act.put _ (some 19) _=_;exact zqs
 refine one_ (i:=5) (N:=some 21) (zqb 20 5695) rfl rfl (one_of HT_.out zqk) (by decide) (fun K hK=>?_);refine goes_ Try.func103 zqk rfl #[.pointer (some ⟨g,0,none⟩),.int .i64 40] (by rfl) rfl rfl zq1 ?_;(with_reducible refine(spec_l20Rd_pick.calls k g s0_0 d4 40 e2 d5 w0 _ ?side1 ?side2 A6.out).mono ?_);(case side1=> exact zq117);(case side2=> exact zq102);rintro e h4 ⟨rfl,hi,hb,hk⟩;refine⟨_,rfl,?_⟩;replace a6:=zqm (KeepBut.blk hk (g':=a5) (o:= .cells #[.slice none 0 0,.slice none 0 0] 30 (0,0)) zq153 c4.out (by simp));replace b3:=zqm (Kd.S_mono (Kd.S_keep (IsS87.apartS (show IsS87 w0 _ g s0_0 d4 from by repeat(first|(with_reducible first|exact a0.out|apply IsS87.alloc|apply IsS87.drewN|apply IsS87.drew|apply IsS87.set_1|refine IsS87.far ?_ a7.out _|refine IsS87.far ?_ a9.out _)|exact a0.out)) zq171 (by decide)) hk (fun _ h=>h.2)) (fun _ h=>h.1));replace b4:=zqm (Kd.Q_mono (Kd.Q_keep (IsS87.apartQ (show IsS87 w0 _ g s0_0 d4 from by repeat(first|(with_reducible first|exact a0.out|apply IsS87.alloc|apply IsS87.drewN|apply IsS87.drew|apply IsS87.set_1|refine IsS87.far ?_ a7.out _|refine IsS87.far ?_ a9.out _)|exact a0.out)) zq275 (by decide)) hk (fun _ h=>h.2)) (fun _ h=>h.1));replace a3:=zqm (KeepBut.blk hk (g':=a2) (o:= .cells #[.slice b0 a8.length b1,.slice b5 a4.length b6] 30 (0,0)) zq311 c5.out (by simp));replace HK:=zqm (KeepBut.trans zq118 hk (.inl rfl));replace HB:=zqm (hb);replace a0:=zqm (hi);clear hb hk hi;refine hK.out _ _ ⟨(blk_cell a3.out 0).trans rfl,(blk_cell a3.out 1).trans rfl⟩ (fun hHeld=>?_);clear hK K;refine norm_ (a':=?_) ?_ ?_;rotate_left
 ·show Act.put _ (some 21) _=_;exact zqs
 refine pure_ (i:=6) (N:=some 22) (v:=?_) (a':=?_) (zqb 20 5759) rfl rfl (any_of HT_.out zqk) (fun _ _ _ h=>h) (Or.inl ⟨by rfl,?_⟩) ?_ ?_;rotate_left
 ·exact zqt
 rotate_left
 ·exact zqs
 refine pure_ (i:=7) (N:=some 23) (v:=?_) (a':=?_) (zqb 20 5887) rfl rfl (any_of HT_.out zqk) (fun _ _ _ h=>h) (Or.inl ⟨by rfl,?_⟩) ?_ ?_;rotate_left
 ·exact zqt
 rotate_left
 ·exact zqs
 refine pure_ (i:=8) (N:=some 24) (v:=?_) (a':=?_) (zqb 20 6143) rfl rfl (any_of HT_.out zqk) (fun _ _ _ h=>h) (Or.inl ⟨by rfl,?_⟩) ?_ ?_;rotate_left
 ·exact zqt
 rotate_left
 ·exact zqs
 refine one_ (i:=11) (N:=some 27) (zqb 20 8191) rfl rfl (one_of HT_.out zqk) (by decide) (fun K hK=>?_);refine goes_ Try.func103 zqk rfl #[.pointer (some ⟨g,0,none⟩),.int .i64 c7] (by rfl) rfl rfl zq354 ?_;(with_reducible refine(spec_l20Rd_pick.calls k g s0_0 d5 c7 e3 d6 w0 _ ?side1 ?side2 A7.out).mono ?_);(case side1=> exact zq117);(case side2=> exact zq102);rintro e h5 ⟨rfl,hi,hb,hk⟩;refine⟨_,rfl,?_⟩;replace a6:=zqm (KeepBut.blk hk (g':=a5) (o:= .cells #[.slice none 0 0,.slice none 0 0] 30 (0,0)) zq153 c4.out (by simp));replace b3:=zqm (Kd.S_mono (Kd.S_keep (IsS87.apartS (show IsS87 w0 _ g s0_0 d5 from by repeat(first|(with_reducible first|exact a0.out|apply IsS87.alloc|apply IsS87.drewN|apply IsS87.drew|apply IsS87.set_1|refine IsS87.far ?_ a7.out _|refine IsS87.far ?_ a9.out _)|exact a0.out)) zq171 (by decide)) hk (fun _ h=>h.2)) (fun _ h=>h.1));replace b4:=zqm (Kd.Q_mono (Kd.Q_keep (IsS87.apartQ (show IsS87 w0 _ g s0_0 d5 from by repeat(first|(with_reducible first|exact a0.out|apply IsS87.alloc|apply IsS87.drewN|apply IsS87.drew|apply IsS87.set_1|refine IsS87.far ?_ a7.out _|refine IsS87.far ?_ a9.out _)|exact a0.out)) zq275 (by decide)) hk (fun _ h=>h.2)) (fun _ h=>h.1));replace a3:=zqm (KeepBut.blk hk (g':=a2) (o:= .cells #[.slice b0 a8.length b1,.slice b5 a4.length b6] 30 (0,0)) zq311 c5.out (by simp));replace HK:=zqm (KeepBut.trans zq118 hk (.inl rfl));replace HB:=zqm (hb);replace a0:=zqm (hi);clear hb hk hi;refine hK.out _ _ ⟨(blk_cell a3.out 0).trans rfl,(blk_cell a3.out 1).trans rfl⟩ (fun hHeld=>?_);clear hK K;refine norm_ (a':=?_) ?_ ?_;rotate_left
 ·show Act.put _ (some 27) _=_;exact zqs
 refine one_ (i:=13) (N:=some 29) (zqb 20 16383) rfl rfl (one_of HT_.out zqk) (by decide) (fun K hK=>?_);refine goes_ Try.func103 zqk rfl #[.pointer (some ⟨g,0,none⟩),.int .i64 40] (by rfl) rfl rfl zq1 ?_;(with_reducible refine(spec_l20Rd_pick.calls k g s0_0 d6 40 e4 e5 w0 _ ?side1 ?side2 A8.out).mono ?_);(case side1=> exact zq117);(case side2=> exact zq102);rintro e f6 ⟨rfl,hi,hb,hk⟩;refine⟨_,rfl,?_⟩;replace a6:=zqm (KeepBut.blk hk (g':=a5) (o:= .cells #[.slice none 0 0,.slice none 0 0] 30 (0,0)) zq153 c4.out (by simp));replace b3:=zqm (Kd.S_mono (Kd.S_keep (IsS87.apartS (show IsS87 w0 _ g s0_0 d6 from by repeat(first|(with_reducible first|exact a0.out|apply IsS87.alloc|apply IsS87.drewN|apply IsS87.drew|apply IsS87.set_1|refine IsS87.far ?_ a7.out _|refine IsS87.far ?_ a9.out _)|exact a0.out)) zq171 (by decide)) hk (fun _ h=>h.2)) (fun _ h=>h.1));replace b4:=zqm (Kd.Q_mono (Kd.Q_keep (IsS87.apartQ (show IsS87 w0 _ g s0_0 d6 from by repeat(first|(with_reducible first|exact a0.out|apply IsS87.alloc|apply IsS87.drewN|apply IsS87.drew|apply IsS87.set_1|refine IsS87.far ?_ a7.out _|refine IsS87.far ?_ a9.out _)|exact a0.out)) zq275 (by decide)) hk (fun _ h=>h.2)) (fun _ h=>h.1));replace a3:=zqm (KeepBut.blk hk (g':=a2) (o:= .cells #[.slice b0 a8.length b1,.slice b5 a4.length b6] 30 (0,0)) zq311 c5.out (by simp));replace HK:=zqm (KeepBut.trans zq118 hk (.inl rfl));replace HB:=zqm (hb);replace a0:=zqm (hi);clear hb hk hi;refine hK.out _ _ ⟨(blk_cell a3.out 0).trans rfl,(blk_cell a3.out 1).trans rfl⟩ (fun hHeld=>?_);clear hK K;refine norm_ (a':=?_) ?_ ?_;rotate_left
 ·show Act.put _ (some 29) _=_;exact zqs
 refine pure_ (i:=14) (N:=some 30) (v:=?_) (a':=?_) (zqb 20 32767) rfl rfl (any_of HT_.out zqk) (fun _ _ _ h=>h) (Or.inl ⟨by rfl,?_⟩) ?_ ?_;rotate_left
 ·exact zqt
 rotate_left
 ·exact zqs
 refine pure_ (i:=15) (N:=some 31) (v:=?_) (a':=?_) (zqb 20 65535) rfl rfl (any_of HT_.out zqk) (fun _ _ _ h=>h) (Or.inl ⟨by rfl,?_⟩) ?_ ?_;rotate_left
 ·exact zqt
 rotate_left
 ·exact zqs
 refine pure_ (i:=16) (N:=some 32) (v:=?_) (a':=?_) (zqb 20 131071) rfl rfl (any_of HT_.out zqk) (fun _ _ _ h=>h) (Or.inl ⟨by rfl,?_⟩) ?_ ?_;rotate_left
 ·exact zqt
 rotate_left
 ·exact zqs
 refine one_ (i:=17) (N:=none) (zqb 20 262143) rfl rfl (one_of HT_.out zqk) (by decide) (fun K hK=>?_);have hs23:f6.cell? ⟨a5,0,none⟩=some (.slice none 0 0):=(blk_cell a6.out 0).trans rfl;have hfs23:=blk_frozen a6.out 0;have hns23_1:=b8.out;have hms23_1:=c1.out;have hs24:f6.cell? ⟨a5,1,none⟩=some (.slice none 0 0):=(blk_cell a6.out 1).trans rfl;have hfs24:=blk_frozen a6.out 1;have hns24_1:=b8.out;have hms24_1:=c1.out;refine skip_ (w1:=?_) (by rfl) rfl ?_ ?_;rotate_left
 ·go_simp;rfl
 refine hK.out _ _ ⟨((cell_far (p:=⟨a5,_,none⟩) b8.out _).trans (((cell_far (p:=⟨a5,_,none⟩) b8.out _).trans (hHeld.1)))),((cell_far (p:=⟨a5,_,none⟩) b8.out _).trans (((cell_far (p:=⟨a5,_,none⟩) b8.out _).trans (hHeld.2))))⟩ (fun hHeld=>?_);clear hK K;refine pure_ (i:=18) (N:=some 5) (v:=?_) (a':=?_) (zqb 20 524287) rfl rfl (any_of HT_.out zqk) (fun _ _ _ h=>h) (Or.inl ⟨by rfl,?_⟩) ?_ ?_;rotate_left
 ·exact zqt
 rotate_left
 ·exact zqs
 refine pure_ (i:=19) (N:=some 6) (v:=?_) (a':=?_) (zqb 20 1048575) rfl rfl (any_of HT_.out zqk) (fun _ _ _ h=>h) (Or.inl ⟨by rfl,?_⟩) ?_ ?_;rotate_left
 ·exact zqt
 rotate_left
 ·exact zqs
 refine done_ (done_of HT_.out zqk) ?_;(try go_wp2);refine bodyPost_ret (results_ctt rfl _ _ a5 30 #[.slice b0 a8.length b1,.slice b5 a4.length b6] (0,0) _ rfl (by(with_reducible repeat(first|refine blk_drewN ?_ _|refine blk_drew ?_|refine blk_alloc ?_ _));refine blk_put (cs:= #[.slice b0 a8.length b1,.slice none 0 0]) ?_ 1 _ rfl;(with_reducible repeat(first|refine blk_drewN ?_ _|refine blk_drew ?_|refine blk_alloc ?_ _));refine blk_put (cs:= #[.slice none 0 0,.slice none 0 0]) ?_ 0 _ rfl;(with_reducible repeat(first|refine blk_drewN ?_ _|refine blk_drew ?_|refine blk_alloc ?_ _));exact a6.out) Try.underlying30 rfl zqk) rfl ?_;exact⟨_,_,by first|rfl|(simp [errW_none,errW_some] <;> rfl)|(simp only [← c8];first|rfl|(simp [errW_none,errW_some] <;> rfl))|(simp [*,errW_none,errW_some] <;> rfl),by(with_reducible repeat(first|apply Kd.S_alloc|apply Kd.S_drewN|apply Kd.S_drew));exact Kd.S_mono (Kd.S_far (p:=⟨a5,1,none⟩) (Kd.S_far (p:=⟨a5,0,none⟩) (Kd.S_types b3.out a6.out (by decide)) (fun _ hk=>hk.2) (.slice b0 a8.length b1)) (fun _ hk=>hk.2) (.slice b5 a4.length b6)) (fun _ hk=>hk.1),by(with_reducible repeat(first|apply Kd.Q_alloc|apply Kd.Q_drewN|apply Kd.Q_drew));exact Kd.Q_mono (Kd.Q_far (p:=⟨a5,1,none⟩) (Kd.Q_far (p:=⟨a5,0,none⟩) (Kd.Q_types b4.out a6.out (by decide)) (fun _ hk=>hk.2) (.slice b0 a8.length b1)) (fun _ hk=>hk.2) (.slice b5 a4.length b6)) (fun _ hk=>trivial),zq117,zq102,zq118⟩
end Go.Proofs.Ytdoomkcgdcfmlaa.Print
end
section
namespace Go.Proofs.Ytdoomkcgdcfmlaa.Print
open Go.RowKit Go.Proofs.YtdoomkcgdcfmlaaW.PrintWords Go.Proofs.YtdoomkcgdcfmlaaW.PrintLast Go.Proofs.YtdoomkcgdcfmlaaW.PrintMore
open Oml
section
variable {b : List Int} (hb : Bytes b) (hl : b.length ≤ 2000)
include hb hl
theorem two_ev {p : Int} (h0 : 0 ≤ p) (h1 : p ≤ 999999000) (n : Int) : ∃ V M x y q, Ev (fun k => spec_l20Two.f k b p n) (V, M, x, y, q) ∧ p ≤ q ∧ q ≤ p + 124 := by
  obtain⟨V,M,q,h,k1,k2⟩:=logic_ev hb hl h0 (by omega) n
  obtain⟨v1,e1,_,_⟩:=pick_ev hb hl (p:=q) (by omega) (by omega) (mx (M.length:Int) 1)
  obtain⟨v2,e2,_,_⟩:=pick_ev hb hl (p:=q+1) (by omega) (by omega) 40
  obtain⟨v3,e3,_,_⟩:=pick_ev hb hl (p:=q+1+1) (by omega) (by omega) (mx (M.length:Int) 1)
  obtain⟨v4,e4,_,_⟩:=pick_ev hb hl (p:=q+1+1+1) (by omega) (by omega) 40
  exact⟨_,_,_,_,q+1+1+1+1,Ev.bind h (Ev.bind e1 (Ev.bind e2 (Ev.bind e3 (Ev.bind e4 (Ev.now _))))),by omega,by omega⟩
end
end Go.Proofs.Ytdoomkcgdcfmlaa.Print
end
section
namespace Go.Proofs.Ytdoomkcgdcfmlaa.Print
open Go.RowKit Go.Proofs.YtdoomkcgdcfmlaaW.PrintWords Go.Proofs.YtdoomkcgdcfmlaaW.PrintLast Go.Proofs.YtdoomkcgdcfmlaaW.PrintMore
open Oml
def impl_NoOf.f (l0_0 : List (List Int)) (l0_1 : List Int) : Option (Int) := some (if logicB l0_0 l0_1 = true then (noI l0_0) else (-1))
set_option maxHeartbeats 1000000 in
theorem impl_NoOf.calls (A0_0 : Option Addr) (c0_0 : Nat) (l0_0 : List (List Int)) (A0_1 : Option Addr) (c0_1 : Nat) (l0_1 : List Int) (r : Int) (w : World) (hr0_0 : Kd.C (Kd.slice 3 (Kd.int .i64)) w A0_0 l0_0.length l0_0) (hc0_0 : l0_0.length ≤ c0_0) (hr0_1 : Kd.C (Kd.int .i64) w A0_1 l0_1.length l0_1) (hc0_1 : l0_1.length ≤ c0_1) (h : impl_NoOf.f l0_0 l0_1 = some r) :
    Calls Try.prog 47 #[.agg #[.slice A0_0 l0_0.length c0_0,.slice A0_1 l0_1.length c0_1]] w fun e w'=>e= .returned (.int .i64 r)∧Below w.heap.size w w':=by
  obtain⟨k,hF⟩:=told_facts l0_0
  have hu30:=Try.underlying30
  have hu70:=Try.underlying70
  have HF:=Aside0.mk hF
  have HR0:=Aside0.mk hr0_0
  have HC0:=Aside0.mk hc0_0
  have HR1:=Aside0.mk hr0_1
  have HC1:=Aside0.mk hc0_1
  simp only [impl_NoOf.f,Option.some.injEq] at h
  clear hr0_0 hc0_0 hr0_1 hc0_1 hF
  cases hL:logicB l0_0 l0_1 with
  | false =>
    rw [hL] at h
    have hr_:(-1)=r:=by simpa using h
    subst hr_
    have HLB:=Aside0.mk hL
    clear h hL
    go_enter Try.func47,Try.ntmps47
    go_wp2_with (first|((with_reducible refine gate_dst (N:=1) rfl ?_);refine box_event ?hg (N:=1) ?hd (cs:= #[.slice A0_0 l0_0.length c0_0,.slice A0_1 l0_1.length c0_1]) (t:=30) ?hr ?_;(case hd=>rfl);(case hg=>rfl);(case hr=>first|(go_simp;done)|(go_simp;rfl));intro gb hg_ w1 hbox hb;have HB:=Aside0.mk hb;have hx0:w1.cell? ⟨gb,0,none⟩=some (.slice A0_0 l0_0.length c0_0):=(blk_cell hbox 0).trans rfl;have hx1:w1.cell? ⟨gb,1,none⟩=some (.slice A0_1 l0_1.length c0_1):=(blk_cell hbox 1).trans rfl;have HX:=Aside0.mk hbox;clear hbox hb hg_)|(go_at_call 77;(with_reducible refine(told_n k _ _ l0_0 _ _ l0_1 _ ?s1 ?s2 ?s3 ?s4 HF.out HLB.out).mono ?_);(case s1=>exact Kd.C_below HR0.out HB.out);(case s2=>exact HC0.out);(case s3=>exact Kd.C_below HR1.out HB.out);(case s4=>exact HC1.out);rintro e w2 ⟨rfl,hb⟩;have HB2:=Aside0.mk (below_step HB.out hb);clear hb hx0 hx1 HX HB))
    go_ret
    exact⟨rfl,HB2.out⟩
  | true =>
    rw [hL] at h
    have hr_:(noI l0_0)=r:=by simpa using h
    subst hr_
    have HLB:=Aside0.mk hL
    have HLg:=Aside0.mk (logicB_iff.1 hL)
    clear h hL
    go_enter Try.func47,Try.ntmps47
    go_wp2_with (first|((with_reducible refine gate_dst (N:=1) rfl ?_);refine box_event ?hg (N:=1) ?hd (cs:= #[.slice A0_0 l0_0.length c0_0,.slice A0_1 l0_1.length c0_1]) (t:=30) ?hr ?_;(case hd=>rfl);(case hg=>rfl);(case hr=>first|(go_simp;done)|(go_simp;rfl));intro gb hg_ w1 hbox hb;have HB:=Aside0.mk hb;have hx0:w1.cell? ⟨gb,0,none⟩=some (.slice A0_0 l0_0.length c0_0):=(blk_cell hbox 0).trans rfl;have hx1:w1.cell? ⟨gb,1,none⟩=some (.slice A0_1 l0_1.length c0_1):=(blk_cell hbox 1).trans rfl;have HX:=Aside0.mk hbox;clear hbox hb hg_)|(go_at_call 77;(with_reducible refine(told_y k _ _ l0_0 _ _ l0_1 _ ?s1 ?s2 ?s3 ?s4 HF.out HLB.out).mono ?_);(case s1=>exact Kd.C_below HR0.out HB.out);(case s2=>exact HC0.out);(case s3=>exact Kd.C_below HR1.out HB.out);(case s4=>exact HC1.out);rintro e w2 ⟨g,v,rfl,hv,hge,hb⟩;have HB2:=Aside0.mk (below_step HB.out hb);have HV:=Aside0.mk hv;clear hv hge hb hx0 hx1 HX HB;have hf_:=HV.out.f4))
    go_ret
    exact⟨rfl,HB2.out⟩
def impl_YesOf.f (l0_0 : List (List Int)) (l0_1 : List Int) : Option (Int) := some (if logicB l0_0 l0_1 = true then (yesI l0_0 l0_1) else (-1))
set_option maxHeartbeats 1000000 in
theorem impl_YesOf.calls (A0_0 : Option Addr) (c0_0 : Nat) (l0_0 : List (List Int)) (A0_1 : Option Addr) (c0_1 : Nat) (l0_1 : List Int) (r : Int) (w : World) (hr0_0 : Kd.C (Kd.slice 3 (Kd.int .i64)) w A0_0 l0_0.length l0_0) (hc0_0 : l0_0.length ≤ c0_0) (hr0_1 : Kd.C (Kd.int .i64) w A0_1 l0_1.length l0_1) (hc0_1 : l0_1.length ≤ c0_1) (h : impl_YesOf.f l0_0 l0_1 = some r) :
    Calls Try.prog 34 #[.agg #[.slice A0_0 l0_0.length c0_0,.slice A0_1 l0_1.length c0_1]] w fun e w'=>e= .returned (.int .i64 r)∧Below w.heap.size w w':=by
  obtain⟨k,hF⟩:=told_facts l0_0
  have hu30:=Try.underlying30
  have hu70:=Try.underlying70
  have HF:=Aside0.mk hF
  have HR0:=Aside0.mk hr0_0
  have HC0:=Aside0.mk hc0_0
  have HR1:=Aside0.mk hr0_1
  have HC1:=Aside0.mk hc0_1
  simp only [impl_YesOf.f,Option.some.injEq] at h
  clear hr0_0 hc0_0 hr0_1 hc0_1 hF
  cases hL:logicB l0_0 l0_1 with
  | false =>
    rw [hL] at h
    have hr_:(-1)=r:=by simpa using h
    subst hr_
    have HLB:=Aside0.mk hL
    clear h hL
    go_enter Try.func34,Try.ntmps34
    go_wp2_with (first|((with_reducible refine gate_dst (N:=1) rfl ?_);refine box_event ?hg (N:=1) ?hd (cs:= #[.slice A0_0 l0_0.length c0_0,.slice A0_1 l0_1.length c0_1]) (t:=30) ?hr ?_;(case hd=>rfl);(case hg=>rfl);(case hr=>first|(go_simp;done)|(go_simp;rfl));intro gb hg_ w1 hbox hb;have HB:=Aside0.mk hb;have hx0:w1.cell? ⟨gb,0,none⟩=some (.slice A0_0 l0_0.length c0_0):=(blk_cell hbox 0).trans rfl;have hx1:w1.cell? ⟨gb,1,none⟩=some (.slice A0_1 l0_1.length c0_1):=(blk_cell hbox 1).trans rfl;have HX:=Aside0.mk hbox;clear hbox hb hg_)|(go_at_call 77;(with_reducible refine(told_n k _ _ l0_0 _ _ l0_1 _ ?s1 ?s2 ?s3 ?s4 HF.out HLB.out).mono ?_);(case s1=>exact Kd.C_below HR0.out HB.out);(case s2=>exact HC0.out);(case s3=>exact Kd.C_below HR1.out HB.out);(case s4=>exact HC1.out);rintro e w2 ⟨rfl,hb⟩;have HB2:=Aside0.mk (below_step HB.out hb);clear hb hx0 hx1 HX HB))
    go_ret
    exact⟨rfl,HB2.out⟩
  | true =>
    rw [hL] at h
    have hr_:(yesI l0_0 l0_1)=r:=by simpa using h
    subst hr_
    have HLB:=Aside0.mk hL
    have HLg:=Aside0.mk (logicB_iff.1 hL)
    clear h hL
    go_enter Try.func34,Try.ntmps34
    go_wp2_with (first|((with_reducible refine gate_dst (N:=1) rfl ?_);refine box_event ?hg (N:=1) ?hd (cs:= #[.slice A0_0 l0_0.length c0_0,.slice A0_1 l0_1.length c0_1]) (t:=30) ?hr ?_;(case hd=>rfl);(case hg=>rfl);(case hr=>first|(go_simp;done)|(go_simp;rfl));intro gb hg_ w1 hbox hb;have HB:=Aside0.mk hb;have hx0:w1.cell? ⟨gb,0,none⟩=some (.slice A0_0 l0_0.length c0_0):=(blk_cell hbox 0).trans rfl;have hx1:w1.cell? ⟨gb,1,none⟩=some (.slice A0_1 l0_1.length c0_1):=(blk_cell hbox 1).trans rfl;have HX:=Aside0.mk hbox;clear hbox hb hg_)|(go_at_call 77;(with_reducible refine(told_y k _ _ l0_0 _ _ l0_1 _ ?s1 ?s2 ?s3 ?s4 HF.out HLB.out).mono ?_);(case s1=>exact Kd.C_below HR0.out HB.out);(case s2=>exact HC0.out);(case s3=>exact Kd.C_below HR1.out HB.out);(case s4=>exact HC1.out);rintro e w2 ⟨g,v,rfl,hv,hge,hb⟩;have HB2:=Aside0.mk (below_step HB.out hb);have HV:=Aside0.mk hv;clear hv hge hb hx0 hx1 HX HB;have hf_:=HV.out.f5))
    go_ret
    exact⟨rfl,HB2.out⟩
end Go.Proofs.Ytdoomkcgdcfmlaa.Print
end
section
namespace Go.Proofs.Ytdoomkcgdcfmlaa.Print
open Go.RowKit Go.Proofs.YtdoomkcgdcfmlaaW.PrintWords Go.Proofs.YtdoomkcgdcfmlaaW.PrintLast Go.Proofs.YtdoomkcgdcfmlaaW.PrintMore
open Oml
section
variable {U : List (List Int)} {N : List Int} (L : Logic U N)
include L
theorem at2_fin (x y : Fin U.length) : (at2 U x.1 y.1 = 1 ↔ L.ol.le x y) ∧ (at2 U x.1 y.1 = 0 ↔ ¬ L.ol.le x y) := by
  have h : L.ol.le x y ↔ at2 U x.1 y.1 = 1 := by
    rw [← leB_fin L]; unfold leB; exact beq_iff_eq
  refine ⟨h.symm, ?_⟩
  rw [h]
  rcases L.bit x.1 y.1 x.2 y.2 with e | e <;> omega
end
theorem inR_one {U : List (List Int)} (x : Fin U.length) : [((x.1 : Nat) : Int)].all (inR U.length) = true := by
  simp only [List.all_cons, List.all_nil, Bool.and_true, inR_iff]; exact in_fin x
end Go.Proofs.Ytdoomkcgdcfmlaa.Print
end
section
namespace Go.Proofs.Ytdoomkcgdcfmlaa.Print
open Go.RowKit Go.Proofs.YtdoomkcgdcfmlaaW.PrintWords Go.Proofs.YtdoomkcgdcfmlaaW.PrintLast Go.Proofs.YtdoomkcgdcfmlaaW.PrintMore
def spec_DrawHighOf.f (k : Nat) (l0 : List Int) : Option ((List (List Int)) × List Int × Int) := (spec_l20Open.f l0).bind fun bt835 => ((spec_l20Two.f k bt835.1 bt835.2 14).bind fun bt838 => (some (bt838.1, bt838.2.1, bt838.2.2.1)))
set_option maxHeartbeats 8000000 in
set_option maxRecDepth 100000 in
theorem spec_DrawHighOf.calls (k : Nat) (A0 : Option Addr) (c0 : Nat) (l0 : List Int) (r1 : List (List Int)) (r2 : List Int) (r3 : Int) (w : World) (hr0 : Kd.C (Kd.int .u8) w A0 l0.length l0) (hc0 : l0.length ≤ c0) (h : spec_DrawHighOf.f k l0 = some (r1, r2, r3)) :
  Calls Try.prog 44 #[.slice A0 l0.length c0] w fun e w' => ∃ v0_ v1_ : Value, e = .returned (.tuple #[.agg #[v0_, v1_], .int .i64 r3]) ∧ Kd.S (Kd.slice 3 (Kd.int .i64)) 28 w' w.heap.size (fun k_ => some k_ ≠ (v1_ : Value).ownBlock) v0_ r1 ∧ Kd.Q (Kd.int .i64) 3 w' w.heap.size (fun _ => True) v1_ r2 ∧ Below w.heap.size w w' := by
 have hu30:=Try.underlying30;have e6:=zqm hr0;have e7:=zqm hc0;clear hr0 hc0;have HB:=zqm (Below.refl w.heap.size w);have H:((spec_l20Open.f l0).bind fun c6=>((spec_l20Two.f k c6.1 c6.2 14).bind fun a6=>(some (a6.1,a6.2.1,a6.2.2.1))))=some (r1,r2,r3):=h;clear h;replace H:=Option.bind_eq_some_iff.mp H;obtain⟨⟨b4,c4⟩,c9,H⟩:=H;replace H:((spec_l20Two.f k b4 c4 14).bind fun a6=>(some (a6.1,a6.2.1,a6.2.2.1)))=some (r1,r2,r3):=H;have A2:=zqm c9;clear c9;replace H:=Option.bind_eq_some_iff.mp H;obtain⟨⟨a7,b0,c7,d6,c5⟩,d0,H⟩:=H;replace H:(some (a7,b0,c7))=some (r1,r2,r3):=H;have A3:=zqm d0;clear d0;simp only [Option.some.injEq,Prod.mk.injEq] at H;obtain⟨rfl,rfl,rfl⟩:=H
 go_enter Try.func44,Try.ntmps44
 go_wp2_with (first|((with_reducible refine gate_dst (N:=2) rfl ?_);refine box_event ?hg (N:=2) ?hd (cs:= #[.slice none 0 0,.slice none 0 0]) (t:=30) ?hr ?_;(case hd=>rfl);(case hg=>rfl);(case hr=>first|(go_simp;done)|(go_simp;rfl));intro a1 hg w4 hbox hb;have b9:=zqm (below_step zq0 hb);have a0:=zqm (hbox);have e9:=zqm ((by rw [hg];exact(below_size zq0):w.heap.size≤a1));have a5:=zqm ((by rw [hg];exact(below_size zq0):w.heap.size≤a1));clear HB;have HB:=b9;clear b9 hb hbox hg)|((with_reducible refine gate_callee (f:=72) rfl ?_);refine goesL_ (some 9) rfl rfl Try.func72 zqk rfl #[.slice A0 l0.length c0] rfl zq1 ?_;(with_reducible refine(spec_l20Open.calls _ _ l0 b4 c4 w _ ?side1 ?side2 ?side3 A2.out).mono ?_);(case side1=> exact zq18);(case side2=>exact e6.out);(case side3=>exact e7.out);rintro e w5 ⟨g837,rfl,hi,hb,hb2⟩;refine⟨_,rfl,?_⟩;have b9:=zqm (blk_below (g:=a1) (o:= .cells #[.slice none 0 0,.slice none 0 0] 30 (0,0)) zq2 hb2);replace HB:=zqm (hb);have a2:=zqm (hi);have a4:=zqm (IsS87.ne_blk hi (blk_below (g:=a1) (o:= .cells #[.slice none 0 0,.slice none 0 0] 30 (0,0)) zq2 hb2) (by decide));have b1:=zqm (Ne.symm (IsS87.ne_blk hi (blk_below (g:=a1) (o:= .cells #[.slice none 0 0,.slice none 0 0] 30 (0,0)) zq2 hb2) (by decide)));clear a0;have a0:=b9;clear b9 hb hb2 hi)|((with_reducible refine gate_callee (f:=76) rfl ?_);refine goesL_ (some 12) rfl rfl Try.func76 zqk rfl #[.pointer (some ⟨g837,0,none⟩),.int .i64 14] rfl zq1 ?_;(with_reducible refine(spec_l20Two.calls k g837 b4 c4 14 a7 b0 c7 d6 c5 w _ ?side1 ?side2 A3.out).mono ?_);(case side1=> exact zq128);(case side2=> exact zq30);rintro e w6 ⟨f5,f6,rfl,d1,d2,hi,hb,hk⟩;refine⟨_,rfl,?_⟩;replace a0:=zqm (KeepBut.blk hk (g':=a1) (o:= .cells #[.slice none 0 0,.slice none 0 0] 30 (0,0)) zq2 b1.out (by simp));have b2:=zqm (Kd.S_lower d1 (below_size zq30));have b3:=zqm (Kd.Q_lower d2 (below_size zq30));replace HB:=zqm (hb);replace a2:=zqm (hi);clear hb hk hi d1 d2)|((with_reducible refine gate_dst (N:=5) rfl ?_);refine box_event ?hg (N:=5) ?hd (cs:= #[.slice none 0 0,.slice none 0 0]) (t:=30) ?hr ?_;(case hd=>rfl);(case hg=>rfl);(case hr=>first|(go_simp;done)|(go_simp;rfl));intro a3 hg w7 hbox hb;replace b2:=zqm (Kd.S_below zq325 hb);replace b3:=zqm (Kd.Q_below zq330 hb);have d3:=zqm (blk_below (g:=a1) (o:= .cells #[.slice none 0 0,.slice none 0 0] 30 (0,0)) zq2 hb);have d4:=zqm (IsS87.below zq128 hb);have d5:=zqm (below_step zq30 hb);have a9:=zqm (hbox);have f0:=zqm ((by rw [hg];exact(below_size zq30):w.heap.size≤a3));have c8:=zqm ((by rw [hg];exact(below_size zq30):w.heap.size≤a3));have a8:=zqm ((by rw [hg];exact Nat.ne_of_lt (blk_lt (g:=a1) (o:= .cells #[.slice none 0 0,.slice none 0 0] 30 (0,0)) zq2):a1≠a3));have c1:=zqm ((by rw [hg];exact Nat.ne_of_gt (blk_lt (g:=a1) (o:= .cells #[.slice none 0 0,.slice none 0 0] 30 (0,0)) zq2):a3≠a1));have c2:=zqm ((by rw [hg];exact Nat.ne_of_lt (IsS87.lt (show IsS87 w _ g837 b4 c5 from by repeat(first|(with_reducible first|exact a2.out|apply IsS87.alloc|apply IsS87.drewN|apply IsS87.drew|apply IsS87.set_1|refine IsS87.far ?_ a4.out _)|exact a2.out))):g837≠a3));have c3:=zqm ((by rw [hg];exact Nat.ne_of_gt (IsS87.lt (show IsS87 w _ g837 b4 c5 from by repeat(first|(with_reducible first|exact a2.out|apply IsS87.alloc|apply IsS87.drewN|apply IsS87.drew|apply IsS87.set_1|refine IsS87.far ?_ a4.out _)|exact a2.out))):a3≠g837));clear a0 a2 HB;have a0:=d3;have a2:=d4;have HB:=d5;clear d3 d4 d5 hb hbox hg;obtain⟨b7,b8,e8⟩:=Kd.S_slice b2.out;subst e8;have f7:=c1.out;have f8:=a8.out;have f1:=c3.out;have f2:=c2.out;have d8:w7.cell? ⟨a3,0,none⟩=some (.slice none 0 0):=(blk_cell a9.out 0).trans rfl;have d9:w7.cell? ⟨a3,1,none⟩=some (.slice none 0 0):=(blk_cell a9.out 1).trans rfl;have e0:=blk_frozen a9.out 0;have e1:=blk_frozen a9.out 1;obtain⟨b5,b6,d7,_⟩:=Kd.Q_slice b3.out;subst d7;have f3:=b1.out;have f4:=a4.out;have e2:w7.cell? ⟨a1,0,none⟩=some (.slice none 0 0):=(blk_cell a0.out 0).trans rfl;have e3:w7.cell? ⟨a1,1,none⟩=some (.slice none 0 0):=(blk_cell a0.out 1).trans rfl;have e4:=blk_frozen a0.out 0;have e5:=blk_frozen a0.out 1))
 refine bodyPost_ret (results_ct rfl _ _ a1 30 #[.slice b7 a7.length b8,.slice b5 b0.length b6] (0,0) _ rfl zq85 Try.underlying30 rfl zqk) rfl ?_;exact⟨_,_,zq11,zq136,zq135,zq176⟩
def spec_HighOf.f (k : Nat) (l0_0 : List (List Int)) (l0_1 : List Int) (a1 : Int) : Option (Int) := (spec_NotOf.f k l0_0 l0_1 a1).bind fun t852 => (if t852 < 0 then (some (-1)) else ((spec_l8High.f k l0_0 a1).bind fun t853 => (some t853)))
set_option maxHeartbeats 8000000 in
set_option maxRecDepth 100000 in
theorem spec_HighOf.calls (k : Nat) (A0_0 : Option Addr) (c0_0 : Nat) (l0_0 : List (List Int)) (A0_1 : Option Addr) (c0_1 : Nat) (l0_1 : List Int) (a1 : Int) (r : Int) (w : World) (hr0_0 : Kd.C (Kd.slice 3 (Kd.int .i64)) w A0_0 l0_0.length l0_0) (hc0_0 : l0_0.length ≤ c0_0) (hr0_1 : Kd.C (Kd.int .i64) w A0_1 l0_1.length l0_1) (hc0_1 : l0_1.length ≤ c0_1) (h : spec_HighOf.f k l0_0 l0_1 a1 = some r) :
  Calls Try.prog 46 #[.agg #[.slice A0_0 l0_0.length c0_0, .slice A0_1 l0_1.length c0_1], .int .i64 a1] w fun e w' => e = .returned (.int .i64 r) ∧ Below w.heap.size w w' := by
 have hu30:=Try.underlying30;have a6:=zqm hr0_0;have a7:=zqm hc0_0;clear hr0_0 hc0_0;have a9:=zqm hr0_1;have b0:=zqm hc0_1;clear hr0_1 hc0_1;have HB:=zqm (Below.refl w.heap.size w);have H:((spec_NotOf.f k l0_0 l0_1 a1).bind fun a3=>(if a3<0 then(some (-1)) else((spec_l8High.f k l0_0 a1).bind fun a5=>(some a5))))=some r:=h;clear h;replace H:=Option.bind_eq_some_iff.mp H;obtain⟨a3,b2,H⟩:=H;replace H:(if a3<0 then(some (-1)) else((spec_l8High.f k l0_0 a1).bind fun a5=>(some a5)))=some r:=H;have A3:=zqm b2;clear b2
 by_cases c4:a3<0
 ·rw [if_pos c4] at H;have b5:decide (a3<0)=true:=decide_eq_true c4;clear c4;obtain rfl:=Option.some.inj H
  go_enter Try.func46,Try.ntmps46
  go_wp2_with (first|((with_reducible refine gate_dst (N:=2) rfl ?_);refine box_event ?hg (N:=2) ?hd (cs:= #[.slice A0_0 l0_0.length c0_0,.slice A0_1 l0_1.length c0_1]) (t:=30) ?hr ?_;(case hd=>rfl);(case hg=>rfl);(case hr=>first|(go_simp;done)|(go_simp;rfl));intro a2 hg w5 hbox hb;have a8:=zqm (below_step zq0 hb);have a0:=zqm (hbox);have b1:=zqm ((by rw [hg];exact(below_size zq0):w.heap.size≤a2));have a4:=zqm ((by rw [hg];exact(below_size zq0):w.heap.size≤a2));clear HB;have HB:=a8;clear a8 hb hbox hg;have c5:w5.cell? ⟨a2,0,none⟩=some (.slice A0_0 l0_0.length c0_0):=(blk_cell a0.out 0).trans rfl;have c6:w5.cell? ⟨a2,1,none⟩=some (.slice A0_1 l0_1.length c0_1):=(blk_cell a0.out 1).trans rfl;have c7:=blk_frozen a0.out 0;have c8:=blk_frozen a0.out 1)|((with_reducible refine gate_callee (f:=96) rfl ?_);refine goesL_ (some 7) rfl rfl Try.func96 zqk rfl #[.agg #[.slice A0_0 l0_0.length c0_0,.slice A0_1 l0_1.length c0_1],.int .i64 a1] rfl zq1 ?_;(with_reducible refine(spec_NotOf.calls k _ _ l0_0 _ _ l0_1 a1 a3 _ ?side1 ?side2 ?side3 ?side4 A3.out).mono ?_);(case side1=> exact zq24);(case side2=>exact a7.out);(case side3=> exact zq57);(case side4=>exact b0.out);rintro e w7 ⟨rfl,hb⟩;refine⟨_,rfl,?_⟩;replace a0:=zqm (blk_below (g:=a2) (o:= .cells #[.slice A0_0 l0_0.length c0_0,.slice A0_1 l0_1.length c0_1] 30 (0,0)) zq2 hb);replace HB:=zqm (below_step zq8 hb);clear hb))
  go_ret
  exact⟨zq11,zq8⟩
 ·rw [if_neg c4] at H;have b5:decide (a3<0)=false:=decide_eq_false c4;clear c4;replace H:=Option.bind_eq_some_iff.mp H;obtain⟨a5,b3,H⟩:=H;replace H:(some a5)=some r:=H;have A8:=zqm b3;clear b3;obtain rfl:=Option.some.inj H
  go_enter Try.func46,Try.ntmps46
  go_wp2_with (first|((with_reducible refine gate_dst (N:=2) rfl ?_);refine box_event ?hg (N:=2) ?hd (cs:= #[.slice A0_0 l0_0.length c0_0,.slice A0_1 l0_1.length c0_1]) (t:=30) ?hr ?_;(case hd=>rfl);(case hg=>rfl);(case hr=>first|(go_simp;done)|(go_simp;rfl));intro a2 hg w9 hbox hb;have a8:=zqm (below_step zq0 hb);have a0:=zqm (hbox);have b1:=zqm ((by rw [hg];exact(below_size zq0):w.heap.size≤a2));have a4:=zqm ((by rw [hg];exact(below_size zq0):w.heap.size≤a2));clear HB;have HB:=a8;clear a8 hb hbox hg;have b6:w9.cell? ⟨a2,0,none⟩=some (.slice A0_0 l0_0.length c0_0):=(blk_cell a0.out 0).trans rfl;have b7:w9.cell? ⟨a2,1,none⟩=some (.slice A0_1 l0_1.length c0_1):=(blk_cell a0.out 1).trans rfl;have b8:=blk_frozen a0.out 0;have b9:=blk_frozen a0.out 1)|((with_reducible refine gate_callee (f:=96) rfl ?_);refine goesL_ (some 7) rfl rfl Try.func96 zqk rfl #[.agg #[.slice A0_0 l0_0.length c0_0,.slice A0_1 l0_1.length c0_1],.int .i64 a1] rfl zq1 ?_;(with_reducible refine(spec_NotOf.calls k _ _ l0_0 _ _ l0_1 a1 a3 _ ?side1 ?side2 ?side3 ?side4 A3.out).mono ?_);(case side1=> exact zq24);(case side2=>exact a7.out);(case side3=> exact zq57);(case side4=>exact b0.out);rintro e b4 ⟨rfl,hb⟩;refine⟨_,rfl,?_⟩;replace a0:=zqm (blk_below (g:=a2) (o:= .cells #[.slice A0_0 l0_0.length c0_0,.slice A0_1 l0_1.length c0_1] 30 (0,0)) zq2 hb);replace HB:=zqm (below_step zq8 hb);clear hb;have c0:b4.cell? ⟨a2,0,none⟩=some (.slice A0_0 l0_0.length c0_0):=(blk_cell a0.out 0).trans rfl;have c1:b4.cell? ⟨a2,1,none⟩=some (.slice A0_1 l0_1.length c0_1):=(blk_cell a0.out 1).trans rfl;have c2:=blk_frozen a0.out 0;have c3:=blk_frozen a0.out 1)|((with_reducible refine gate_callee (f:=89) rfl ?_);refine goesL_ (some 12) rfl rfl Try.func89 zqk rfl #[.slice A0_0 l0_0.length c0_0,.int .i64 a1] rfl zq1 ?_;(with_reducible refine(spec_l8High.calls k _ _ l0_0 a1 a5 _ ?side1 ?side2 A8.out).mono ?_);(case side1=> exact zq24);(case side2=>exact a7.out);rintro e c9 ⟨rfl,hb⟩;refine⟨_,rfl,?_⟩;replace a0:=zqm (blk_below (g:=a2) (o:= .cells #[.slice A0_0 l0_0.length c0_0,.slice A0_1 l0_1.length c0_1] 30 (0,0)) zq2 hb);replace HB:=zqm (below_step zq8 hb);clear hb))
  go_ret
  exact⟨zq11,zq8⟩
def laws_hasInt.l0 : Nat → List Int → Int → Int → Option (Bool)
 | 0, _, _, _ => none
 | k + 1, x0, x1, x5 => if x5 < (x0.length : Int) then (if 0 ≤ x5 then (if (rd x0 x5) = x1 then (some true) else (laws_hasInt.l0 k x0 x1 (wrap64 (x5 + 1)))) else (none)) else (some false)
def laws_hasInt.f (k : Nat) (l0 : List Int) (a1 : Int) : Option (Bool) := laws_hasInt.l0 k l0 a1 0
set_option maxHeartbeats 8000000 in
set_option maxRecDepth 100000 in
theorem laws_hasInt.calls (k : Nat) (A0 : Option Addr) (c0 : Nat) (l0 : List Int) (a1 : Int) (r : Bool) (w : World) (hr0 : Kd.C (Kd.int .i64) w A0 l0.length l0) (hc0 : l0.length ≤ c0) (h : laws_hasInt.f k l0 a1 = some r) :
  Calls Try.prog 48 #[.slice A0 l0.length c0, .int .i64 a1] w fun e w' => e = .returned (.bool r) ∧ Drawn0 w w' := by
 have HR0:=zqm hr0;have HC0:=zqm hc0;clear hr0 hc0;have H:(laws_hasInt.l0 k l0 a1 0)=some r:=h;clear h;have H':=zqm H;clear H
 go_enter Try.func48,Try.ntmps48
 go_wp2
 go_loopg [5] k (fun kq v5 w'=> ∃(x5_1:Int),v5= .int .i64 x5_1∧Aside0 (laws_hasInt.l0 kq l0 a1 x5_1=some r)∧Aside0 (kq≤k)∧Drawn0 w w')
 case atStart=>exact⟨(0),(by first|rfl|(simp;done)|(simp [*];done)),H',⟨Nat.le_refl _⟩,zq22⟩
 case round=>
  clear H';(try clear p2);obtain⟨x5_1,rfl,HA,HK1,⟨m1,rfl⟩⟩:=hrel
  cases gk with
  |zero=>exact absurd HA.out (by simp [laws_hasInt.l0])
  |succ k1=>
   have H:=HA.out;clear HA;simp only [laws_hasInt.l0] at H
   by_cases c3:x5_1<(l0.length:Int)
   ·rw [if_pos c3] at H;have c3b0:decide (x5_1<(l0.length:Int))=true:=decide_eq_true c3;clear c3
    by_cases c4:0≤x5_1
    ·rw [if_pos c4] at H;have c4b0:decide (0≤x5_1)=true:=decide_eq_true c4;clear c4
     by_cases c5:(rd l0 x5_1)=a1
     ·rw [if_pos c5] at H;have c5b0:((rd l0 x5_1)==a1)=true:=beq_iff_eq.mpr c5;have c5b1:((rd l0 x5_1) !=a1)=false:=bne_eq_false_iff_eq.mpr c5;clear c5;obtain rfl:=Option.some.inj H;have p854:0≤(x5_1:Int):=zqo;have q854:x5_1<(l0.length:Int):=zqo;obtain⟨ad854,e854,hx854_0⟩:=Kd.at_int HR0.out x5_1 p854 q854
      cases e854
      replace p854:=eq_true p854;replace q854:=eq_true q854
      go_wp2
      go_ret
      exact⟨by first|rfl|(simp;done)|(simp [*];done),zq22⟩
     ·rw [if_neg c5] at H;have c5b0:((rd l0 x5_1)==a1)=false:=beq_eq_false_iff_ne.mpr c5;have c5b1:((rd l0 x5_1) !=a1)=true:=bne_iff_ne.mpr c5;have H':=zqm H;clear H;have p854:0≤(x5_1:Int):=zqo;have q854:x5_1<(l0.length:Int):=zqo;obtain⟨ad854,e854,hx854_0⟩:=Kd.at_int HR0.out x5_1 p854 q854
      cases e854
      replace p854:=eq_true p854;replace q854:=eq_true q854
      go_wp2
      go_roundg k1
      (case measure=>have:=HK1.out;omega);case rel=>exact⟨(wrap64 (x5_1+1)),(by first|rfl|(simp;done)|(simp [*];done)),H',⟨by have:=HK1.out;omega⟩,zq22⟩
    ·rw [if_neg c4] at H;exact absurd H (by simp)
   ·rw [if_neg c3] at H;have c3b0:decide (x5_1<(l0.length:Int))=false:=decide_eq_false c3;clear c3;obtain rfl:=Option.some.inj H
    go_wp2
    go_ret
    exact⟨by first|rfl|(simp;done)|(simp [*];done),zq22⟩
end Go.Proofs.Ytdoomkcgdcfmlaa.Print
end
section
namespace Go.Proofs.Ytdoomkcgdcfmlaa.Print
open Go.RowKit Go.Proofs.YtdoomkcgdcfmlaaW.PrintWords Go.Proofs.YtdoomkcgdcfmlaaW.PrintLast Go.Proofs.YtdoomkcgdcfmlaaW.PrintMore
mutual
def impl_AtomsOf.l0 : Nat → List (List Int) → Int → List Int → Int → Int → Option (List Int)
 | 0, _, _, _, _, _ => none
 | k + 1, x0, x3, x5, x18, x19 => if x19 < x18 then (impl_AtomsOf.l1 k x0 x3 x5 x19 0 x18 x19 (x0.length : Int) 0) else (some x5)
def impl_AtomsOf.l1 : Nat → List (List Int) → Int → List Int → Int → Int → Int → Int → Int → Int → Option (List Int)
 | 0, _, _, _, _, _, _, _, _, _ => none
 | k + 1, x0, x3, x5, x6, x7, x18, x19, x23, x24 => if x24 < x23 then (if 0 ≤ x24 then (if x24 < (x0.length : Int) then (if 0 ≤ x6 then (if x6 < ((rd_L3 x0 x24).length : Int) then (impl_AtomsOf.l1 k x0 x3 x5 x6 (wrap64 (x7 + (rd (rd_L3 x0 x24) x6))) x18 x19 x23 (wrap64 (x24 + 1))) else (none)) else (none)) else (none)) else (none)) else (if x6 = x3 then (impl_AtomsOf.l0 k x0 x3 x5 x18 (wrap64 (x19 + 1))) else (if x7 = 2 then (if x5.length < 17592186044416 then (impl_AtomsOf.l0 k x0 x3 (x5 ++ [x6]) x18 (wrap64 (x19 + 1))) else (none)) else (impl_AtomsOf.l0 k x0 x3 x5 x18 (wrap64 (x19 + 1)))))
end
def impl_AtomsOf.f (k : Nat) (l0 : List (List Int)) : Option (List Int) := (impl_LeastOf.f k l0).bind fun bt855 => (if bt855.2 = true then (impl_AtomsOf.l0 k l0 bt855.1 (([] : List Int)) (l0.length : Int) 0) else (some ([] : List Int)))
set_option maxHeartbeats 8000000 in
set_option maxRecDepth 100000 in
theorem impl_AtomsOf.calls (k : Nat) (A0 : Option Addr) (c0 : Nat) (l0 : List (List Int)) (r : List Int) (w : World) (hr0 : Kd.C (Kd.slice 3 (Kd.int .i64)) w A0 l0.length l0) (hc0 : l0.length ≤ c0) (h : impl_AtomsOf.f k l0 = some r) :
  Calls Try.prog 49 #[.slice A0 l0.length c0] w fun e w' => ∃ v0_ : Value, e = .returned (v0_) ∧ Kd.R (Kd.int .i64) 3 w' w.heap.size (fun _ => True) v0_ r ∧ Below w.heap.size w w' := by
 have d3:=zqm hr0;have e4:=zqm hc0;clear hr0 hc0;have HB:=zqm (Below.refl w.heap.size w);have H:((impl_LeastOf.f k l0).bind fun c2=>(if c2.2=true then(impl_AtomsOf.l0 k l0 c2.1 (([]:List Int)) (l0.length:Int) 0) else(some ([]:List Int))))=some r:=h;clear h;replace H:=Option.bind_eq_some_iff.mp H;obtain⟨⟨a2,d4⟩,e5,H⟩:=H;replace H:(if d4=true then(impl_AtomsOf.l0 k l0 a2 (([]:List Int)) (l0.length:Int) 0) else(some ([]:List Int)))=some r:=H;have A2:=zqm e5;clear e5
 by_cases c3:d4=true
 ·subst c3;(have H1:(impl_AtomsOf.l0 k l0 a2 (([]:List Int)) (l0.length:Int) 0)=some r:=by rw [if_pos rfl] at H;exact H);clear H;have H:=H1;clear H1;obtain⟨d5,a5⟩: ∃y_:List Int,y_=(([]:List Int)):=⟨_,rfl⟩;(replace H:(impl_AtomsOf.l0 k l0 a2 d5 (l0.length:Int) 0)=some r:=by first|(rw [a5];with_reducible exact H)|(have b1:=(Option.bind_some _ _).symm.trans H;rw [a5];with_reducible exact b1)|(have b1:=(Option.bind_some _ _).symm.trans H;with_reducible exact b1)|with_reducible exact H|(rw [a5];exact H)|exact H);have c4:=zqm a5;clear a5;have H':=zqm H;clear H
  go_enter Try.func49,Try.ntmps49
  go_wp2_with (first|((with_reducible refine gate_callee (f:=97) rfl ?_);refine goesL_ (some 11) rfl rfl Try.func97 zqk rfl #[.slice A0 l0.length c0] rfl zq1 ?_;(with_reducible refine(impl_LeastOf.calls k _ _ l0 a2 true _ ?side1 ?side2 A2.out).mono ?_);(case side1=> exact zq356);(case side2=>exact e4.out);rintro e w' ⟨rfl,⟨nd,rfl⟩⟩;refine⟨_,rfl,?_⟩)|((with_reducible refine gate_dst (N:=16) rfl ?_);refine Kd.R_lit (Kd.int .i64) _ 3 ?hg (N:=16) ?hd (xs:=([]:List Int)) (inner:= []) (ok:=fun _=>True) (okp:=fun _=>True) ?hr ?hp (fun _ hk=>hk) trivial (Below.refl _ _) (Nat.le_refl _) (by simp) ?_;(case hd=>rfl);(case hg=>rfl);(case hr=>first|(go_simp;done)|(go_simp;rfl));(case hp=>exact(Reps.none _ _));intro f9 w4 b6 hb hg_ hnew_;clear hg_ hnew_;(first|rw [← c4.out] at b6|(simp only [Int.reduceToNat] at b6;rw [← c4.out] at b6));have d7:=zqm (Kd.R_lower b6 (below_size zq0));replace HB:=zqm (below_step zq0 hb);clear hb b6))
  go_loopg [5,19] k (fun kq v5 f1 w'=> ∃(a3:List Int) (a0:Int),f1= .int .i64 a0∧Aside0 (impl_AtomsOf.l0 kq l0 a2 a3 (l0.length:Int) a0=some r)∧Aside0 (kq≤k)∧Aside0 (Kd.R (Kd.int .i64) 3 w' w.heap.size (fun _=>True) v5 a3)∧Aside0 (Below w.heap.size w w'))
  case atStart=>exact⟨(d5),(0),(by first|rfl|(simp;done)|(simp [*];done)),H',⟨Nat.le_refl _⟩,⟨by(with_reducible repeat(first|apply Kd.R_alloc|apply Kd.R_drewN|apply Kd.R_drew));exact d7.out⟩,⟨zq0⟩⟩
  case round=>
   clear H';obtain⟨a3,a0,rfl,HA,a9,HO_5,HB⟩:=hrel
   cases gk with
   |zero=>exact absurd HA.out (by simp [impl_AtomsOf.l0])
   |succ k1=>
    have H:=HA.out;clear HA;simp only [impl_AtomsOf.l0] at H
    by_cases c6:a0<(l0.length:Int)
    ·rw [if_pos c6] at H;have e6:decide (a0<(l0.length:Int))=true:=decide_eq_true c6;clear c6;have H':=zqm H;clear H
     go_wp2
     go_loopg [7,24] k1 (fun kq v7 f2 w'=> ∃(a4:Int) (a1:Int),v7= .int .i64 a4∧f2= .int .i64 a1∧Aside0 (impl_AtomsOf.l1 kq l0 a2 a3 a0 a4 (l0.length:Int) a0 (l0.length:Int) a1=some r)∧Aside0 (kq≤k1)∧Aside0 (Kd.R (Kd.int .i64) 3 w' w.heap.size (fun _=>True) u5 a3)∧Aside0 (Below w.heap.size w w'))
     case atStart=>exact⟨(0),(0),(by first|rfl|(simp;done)|(simp [*];done)),(by first|rfl|(simp;done)|(simp [*];done)),H',⟨Nat.le_refl _⟩,⟨zq32⟩,⟨zq0⟩⟩
     case round=>
      clear H';obtain⟨a4,a1,rfl,rfl,HA,b0,HO_5,HB⟩:=hrel
      cases gk with
      |zero=>exact absurd HA.out (by simp [impl_AtomsOf.l1])
      |succ k2=>
       have H:=HA.out;clear HA;simp only [impl_AtomsOf.l1] at H
       by_cases c7:a1<(l0.length:Int)
       ·rw [if_pos c7] at H;have e7:decide (a1<(l0.length:Int))=true:=decide_eq_true c7;clear c7
        by_cases c8:0≤a1
        ·rw [if_pos c8] at H;have g0:decide (0≤a1)=true:=decide_eq_true c8;clear c8
         by_cases c9:a1<(l0.length:Int)
         ·rw [if_pos c9] at H;have g1:decide (a1<(l0.length:Int))=true:=decide_eq_true c9;clear c9
          by_cases c5:0≤a0
          ·rw [if_pos c5] at H;have f5:decide (0≤a0)=true:=decide_eq_true c5;clear c5
           by_cases d0:a0<((rd_L3 l0 a1).length:Int)
           ·rw [if_pos d0] at H;have f6:decide (a0<((rd_L3 l0 a1).length:Int))=true:=decide_eq_true d0;clear d0;have H':=zqm H;clear H;have b7:0≤(a1:Int):=zqo;have b8:a1<(l0.length:Int):=zqo;obtain⟨f7,f3,f4,e8,a7,b4,b5⟩:=at_L3 d3.out a1 b7 b8
            cases e8
            replace a7:=(HB.out.cell (World.block_lt_of_cell? w _ a7)).trans a7;have d2:=zqm b5;have f0:=zqm b4;clear b5 b4;replace b7:=eq_true b7;replace b8:=eq_true b8;have b9:0≤(a0:Int):=zqo;have c1:a0<((rd_L3 l0 a1).length:Int):=zqo;obtain⟨f8,e9,a8⟩:=Kd.at_int d2.out a0 b9 c1
            cases e9
            replace a8:=(HB.out.cell (World.block_lt_of_cell? w _ a8)).trans a8;replace b9:=eq_true b9;replace c1:=eq_true c1
            go_wp2
            go_roundg k2
            (case measure=>have:=a9.out;have:=b0.out;omega);case rel=>exact⟨(wrap64 (a4+(rd (rd_L3 l0 a1) a0))),(wrap64 (a1+1)),(by first|rfl|(simp;done)|(simp [*];done)),(by first|rfl|(simp;done)|(simp [*];done)),H',⟨by have:=a9.out;have:=b0.out;omega⟩,⟨zq32⟩,⟨zq0⟩⟩
           ·rw [if_neg d0] at H;exact absurd H (by simp)
          ·rw [if_neg c5] at H;exact absurd H (by simp)
         ·rw [if_neg c9] at H;exact absurd H (by simp)
        ·rw [if_neg c8] at H;exact absurd H (by simp)
       ·rw [if_neg c7] at H;have e7:decide (a1<(l0.length:Int))=false:=decide_eq_false c7;clear c7
        by_cases b2:a0=a2
        ·rw [if_pos b2] at H;have d8:(a0==a2)=true:=beq_iff_eq.mpr b2;have d9:(a0 !=a2)=false:=bne_eq_false_iff_eq.mpr b2;clear b2;have H':=zqm H;clear H
         go_wp2
         go_roundg k2
         (case measure=>have:=a9.out;have:=b0.out;omega);case rel=>exact⟨(a3),(wrap64 (a0+1)),(by first|rfl|(simp;done)|(simp [*];done)),H',⟨by have:=a9.out;have:=b0.out;omega⟩,⟨zq32⟩,⟨zq0⟩⟩
        ·rw [if_neg b2] at H;have d8:(a0==a2)=false:=beq_eq_false_iff_ne.mpr b2;have d9:(a0 !=a2)=true:=bne_iff_ne.mpr b2
         by_cases b3:a4=2
         ·rw [if_pos b3] at H;have e0:(a4==2)=true:=beq_iff_eq.mpr b3;have e1:(a4 !=2)=false:=bne_eq_false_iff_eq.mpr b3;clear b3
          by_cases d1:a3.length<17592186044416
          ·rw [if_pos d1] at H;have LMc14:=zqm d1;clear d1;obtain⟨d6,a6⟩: ∃y_:List Int,y_=(a3 ++ [a0]):=⟨_,rfl⟩;(replace H:(impl_AtomsOf.l0 k2 l0 a2 d6 (l0.length:Int) (wrap64 (a0+1)))=some r:=by first|(rw [a6];with_reducible exact H)|(have b1:=(Option.bind_some _ _).symm.trans H;rw [a6];with_reducible exact b1)|(have b1:=(Option.bind_some _ _).symm.trans H;with_reducible exact b1)|with_reducible exact H|(rw [a6];exact H)|exact H);have e2:=zqm a6;clear a6;have H':=zqm H;clear H
           go_wp2_with (first|((with_reducible refine gate_builtin (b:= .append) (xs:= #[.tmp 44,.tmp 46]) rfl ?_);at_builtin;refine Kd.R_append (Kd.int .i64) (w0:=w) w.heap.size rfl (.tmp 44) (.tmp 46) 28 3 (.int .i64 0) 8 rfl Try.underlying28 info3 rfl (by decide) (by omega) u5 a3 a0 [.int .i64 a0] (fun _=>True) (fun _=>False) rfl rfl ?aP (fun _ hk=>hk.elim) ?aF ?aO ?aB ?aS ?aL ?_;(case aP=>exact rfl);(case aB=> exact zq287);(case aF=>exact(fun _ _=>trivial));(case aO=> exact zq316);(case aS=> exact zq271);(case aL=>have:=LMc14.out;omega);intro g2 g3 ho hb hg hat;rw [← e2.out] at ho;replace HB:=zqm (hb);have e3:=zqm (ho);clear HO_5;clear ho hb hg hat))
           go_roundg k2
           (case measure=>have:=a9.out;have:=b0.out;omega);case rel=>exact⟨(d6),(wrap64 (a0+1)),(by first|rfl|(simp;done)|(simp [*];done)),H',⟨by have:=a9.out;have:=b0.out;omega⟩,⟨zq389⟩,⟨zq0⟩⟩
          ·rw [if_neg d1] at H;exact absurd H (by simp)
         ·rw [if_neg b3] at H;have e0:(a4==2)=false:=beq_eq_false_iff_ne.mpr b3;have e1:(a4 !=2)=true:=bne_iff_ne.mpr b3;have H':=zqm H;clear H
          go_wp2
          go_roundg k2
          (case measure=>have:=a9.out;have:=b0.out;omega);case rel=>exact⟨(a3),(wrap64 (a0+1)),(by first|rfl|(simp;done)|(simp [*];done)),H',⟨by have:=a9.out;have:=b0.out;omega⟩,⟨zq32⟩,⟨zq0⟩⟩
    ·rw [if_neg c6] at H;have e6:decide (a0<(l0.length:Int))=false:=decide_eq_false c6;clear c6;obtain rfl:=Option.some.inj H
     go_wp2
     go_ret
     exact⟨_,zq11,zq32,zq0⟩
 ·replace c3:=Bool.eq_false_iff.mpr c3;subst c3;(have H1:(some ([]:List Int))=some r:=by rw [if_neg (show¬(false=true) by decide)] at H;exact H);clear H;have H:=H1;clear H1;obtain rfl:=Option.some.inj H
  go_enter Try.func49,Try.ntmps49
  go_wp2_with (first|((with_reducible refine gate_callee (f:=97) rfl ?_);refine goesL_ (some 11) rfl rfl Try.func97 zqk rfl #[.slice A0 l0.length c0] rfl zq1 ?_;(with_reducible refine(impl_LeastOf.calls k _ _ l0 a2 false _ ?side1 ?side2 A2.out).mono ?_);(case side1=> exact zq356);(case side2=>exact e4.out);rintro e w' ⟨rfl,⟨nd,rfl⟩⟩;refine⟨_,rfl,?_⟩))
  go_ret
  exact⟨_,zq11,zq174,zq0⟩
end Go.Proofs.Ytdoomkcgdcfmlaa.Print
end
section
namespace Go.Proofs.Ytdoomkcgdcfmlaa.Print
open Go.RowKit Go.Proofs.YtdoomkcgdcfmlaaW.PrintWords Go.Proofs.YtdoomkcgdcfmlaaW.PrintLast Go.Proofs.YtdoomkcgdcfmlaaW.PrintMore
open Oml
def impl_HighOf.f (l0_0 : List (List Int)) (l0_1 : List Int) (a1 : Int) : Option (Int) := some (if logicB l0_0 l0_1 = true then (if [a1].all (inR l0_0.length) = true then (hiI l0_0 a1) else (-1)) else (-1))
set_option maxHeartbeats 1000000 in
theorem impl_HighOf.calls (A0_0 : Option Addr) (c0_0 : Nat) (l0_0 : List (List Int)) (A0_1 : Option Addr) (c0_1 : Nat) (l0_1 : List Int) (a1 : Int) (r : Int) (w : World) (hr0_0 : Kd.C (Kd.slice 3 (Kd.int .i64)) w A0_0 l0_0.length l0_0) (hc0_0 : l0_0.length ≤ c0_0) (hr0_1 : Kd.C (Kd.int .i64) w A0_1 l0_1.length l0_1) (hc0_1 : l0_1.length ≤ c0_1) (h : impl_HighOf.f l0_0 l0_1 a1 = some r) :
    Calls Try.prog 45 #[.agg #[.slice A0_0 l0_0.length c0_0,.slice A0_1 l0_1.length c0_1],.int .i64 a1] w fun e w'=>e= .returned (.int .i64 r)∧Below w.heap.size w w':=by
  obtain⟨k,hF⟩:=told_facts l0_0
  have hu30:=Try.underlying30
  have hu70:=Try.underlying70
  have HF:=Aside0.mk hF
  have HR0:=Aside0.mk hr0_0
  have HC0:=Aside0.mk hc0_0
  have HR1:=Aside0.mk hr0_1
  have HC1:=Aside0.mk hc0_1
  simp only [impl_HighOf.f,Option.some.injEq] at h
  clear hr0_0 hc0_0 hr0_1 hc0_1 hF
  cases hL:logicB l0_0 l0_1 with
  | false =>
    rw [hL] at h
    have hr_:(-1)=r:=by simpa using h
    subst hr_
    have HLB:=Aside0.mk hL
    clear h hL
    go_enter Try.func45,Try.ntmps45
    go_wp2_with (first|((with_reducible refine gate_dst (N:=2) rfl ?_);refine box_event ?hg (N:=2) ?hd (cs:= #[.slice A0_0 l0_0.length c0_0,.slice A0_1 l0_1.length c0_1]) (t:=30) ?hr ?_;(case hd=>rfl);(case hg=>rfl);(case hr=>first|(go_simp;done)|(go_simp;rfl));intro gb hg_ w1 hbox hb;have HB:=Aside0.mk hb;have hx0:w1.cell? ⟨gb,0,none⟩=some (.slice A0_0 l0_0.length c0_0):=(blk_cell hbox 0).trans rfl;have hx1:w1.cell? ⟨gb,1,none⟩=some (.slice A0_1 l0_1.length c0_1):=(blk_cell hbox 1).trans rfl;have HX:=Aside0.mk hbox;clear hbox hb hg_)|(go_at_call 77;(with_reducible refine(told_n k _ _ l0_0 _ _ l0_1 _ ?s1 ?s2 ?s3 ?s4 HF.out HLB.out).mono ?_);(case s1=>exact Kd.C_below HR0.out HB.out);(case s2=>exact HC0.out);(case s3=>exact Kd.C_below HR1.out HB.out);(case s4=>exact HC1.out);rintro e w2 ⟨rfl,hb⟩;have HB2:=Aside0.mk (below_step HB.out hb);clear hb hx0 hx1 HX HB)|(go_at_call 78;(with_reducible refine(knows_nil _ _ _ _).mono ?_);rintro e w3 ⟨rfl,hb⟩;have HB3:=Aside0.mk (below_step zq116 hb);clear hb))
    go_ret
    exact⟨rfl,HB3.out⟩
  | true =>
    have HLB:=Aside0.mk hL
    have HLg:=Aside0.mk (logicB_iff.1 hL)
    cases hin: [a1].all (inR l0_0.length) with
    | false =>
      rw [hL,hin] at h
      have hr_:(-1)=r:=by simpa using h
      subst hr_
      have HIN:=Aside0.mk hin
      clear h hL hin
      go_enter Try.func45,Try.ntmps45
      go_wp2_with (first|((with_reducible refine gate_dst (N:=2) rfl ?_);refine box_event ?hg (N:=2) ?hd (cs:= #[.slice A0_0 l0_0.length c0_0,.slice A0_1 l0_1.length c0_1]) (t:=30) ?hr ?_;(case hd=>rfl);(case hg=>rfl);(case hr=>first|(go_simp;done)|(go_simp;rfl));intro gb hg_ w1 hbox hb;have HB:=Aside0.mk hb;have hx0:w1.cell? ⟨gb,0,none⟩=some (.slice A0_0 l0_0.length c0_0):=(blk_cell hbox 0).trans rfl;have hx1:w1.cell? ⟨gb,1,none⟩=some (.slice A0_1 l0_1.length c0_1):=(blk_cell hbox 1).trans rfl;have HX:=Aside0.mk hbox;clear hbox hb hg_)|(go_at_call 77;(with_reducible refine(told_y k _ _ l0_0 _ _ l0_1 _ ?s1 ?s2 ?s3 ?s4 HF.out HLB.out).mono ?_);(case s1=>exact Kd.C_below HR0.out HB.out);(case s2=>exact HC0.out);(case s3=>exact Kd.C_below HR1.out HB.out);(case s4=>exact HC1.out);rintro e w2 ⟨g,v,rfl,hv,hge,hb⟩;have HB2:=Aside0.mk (below_step HB.out hb);have HV:=Aside0.mk hv;clear hv hge hb hx0 hx1 HX HB)|(go_at_call 78;(with_reducible refine(knows_calls g l0_0 l0_1 v _ HLg.out ?s1 _ _ [a1] 1 rfl ?s2 (by omega) false HIN.out).mono ?_);(case s1=>exact View.alloc HV.out _);(case s2=>exact lit_C _ _ [a1] (by simp));rintro e w3 ⟨rfl,hb⟩;have HB3:=Aside0.mk (below_step (below_alloc HB2.out _) hb);have HV3:=Aside0.mk (View.below (View.alloc HV.out _) hb);clear hb))
      go_ret
      exact⟨rfl,HB3.out⟩
    | true =>
      rw [hL,hin] at h
      have hr_:(hiI l0_0 a1)=r:=by simpa using h
      subst hr_
      have HIN:=Aside0.mk hin
      have hin2:=hin
      simp only [List.all_cons,List.all_nil,Bool.and_true,Bool.and_eq_true,inR_iff] at hin2
      have Ia1:=Aside0.mk (hin2)
      clear h hL hin hin2
      go_enter Try.func45,Try.ntmps45
      go_wp2_with (first|((with_reducible refine gate_dst (N:=2) rfl ?_);refine box_event ?hg (N:=2) ?hd (cs:= #[.slice A0_0 l0_0.length c0_0,.slice A0_1 l0_1.length c0_1]) (t:=30) ?hr ?_;(case hd=>rfl);(case hg=>rfl);(case hr=>first|(go_simp;done)|(go_simp;rfl));intro gb hg_ w1 hbox hb;have HB:=Aside0.mk hb;have hx0:w1.cell? ⟨gb,0,none⟩=some (.slice A0_0 l0_0.length c0_0):=(blk_cell hbox 0).trans rfl;have hx1:w1.cell? ⟨gb,1,none⟩=some (.slice A0_1 l0_1.length c0_1):=(blk_cell hbox 1).trans rfl;have HX:=Aside0.mk hbox;clear hbox hb hg_)|(go_at_call 77;(with_reducible refine(told_y k _ _ l0_0 _ _ l0_1 _ ?s1 ?s2 ?s3 ?s4 HF.out HLB.out).mono ?_);(case s1=>exact Kd.C_below HR0.out HB.out);(case s2=>exact HC0.out);(case s3=>exact Kd.C_below HR1.out HB.out);(case s4=>exact HC1.out);rintro e w2 ⟨g,v,rfl,hv,hge,hb⟩;have HB2:=Aside0.mk (below_step HB.out hb);have HV:=Aside0.mk hv;clear hv hge hb hx0 hx1 HX HB)|(go_at_call 78;(with_reducible refine(knows_calls g l0_0 l0_1 v _ HLg.out ?s1 _ _ [a1] 1 rfl ?s2 (by omega) true HIN.out).mono ?_);(case s1=>exact View.alloc HV.out _);(case s2=>exact lit_C _ _ [a1] (by simp));rintro e w3 ⟨rfl,hb⟩;have HB3:=Aside0.mk (below_step (below_alloc HB2.out _) hb);have HV3:=Aside0.mk (View.below (View.alloc HV.out _) hb);clear hb))
      go_wp2_with (go_at_call 86;(with_reducible refine(high_in g l0_0 l0_1 v HLg.out Ia1.out _ ?s1).mono ?_);(case s1=> exact zq379);rintro e w' ⟨rfl,hb⟩;have HB4:=Aside0.mk (below_step (by repeat(first|exact HB3.out|apply below_alloc|apply pw_below_drewN|apply below_drew1)) hb);clear hb)
      go_ret
      exact⟨rfl,zq428⟩
end Go.Proofs.Ytdoomkcgdcfmlaa.Print
end
section
namespace Go.Proofs.Ytdoomkcgdcfmlaa.Print
open Go.RowKit Go.Proofs.YtdoomkcgdcfmlaaW.PrintWords Go.Proofs.YtdoomkcgdcfmlaaW.PrintLast Go.Proofs.YtdoomkcgdcfmlaaW.PrintMore
def laws_FnHighOf.l0 : Nat → Int → Int → Int → List (List Int) → List Int → Option (Bool)
 | 0, _, _, _, _, _ => none
 | k + 1, x4, x5, x6, x873000, x873001 => if x6 < (x873001.length : Int) then (if x6 = x4 then (laws_FnHighOf.l0 k x4 x5 (wrap64 (x6 + 1)) x873000 x873001) else (if 0 ≤ x6 then (if x6 < (x873000.length : Int) then (if 0 ≤ x4 then (if x4 < ((rd_L3 x873000 x6).length : Int) then (if (rd (rd_L3 x873000 x6) x4) = 1 then ((impl_HighOf.f x873000 x873001 x6).bind fun t878 => (if t878 ≥ x5 then (some false) else (laws_FnHighOf.l0 k x4 x5 (wrap64 (x6 + 1)) x873000 x873001))) else (laws_FnHighOf.l0 k x4 x5 (wrap64 (x6 + 1)) x873000 x873001)) else (none)) else (none)) else (none)) else (none))) else ((impl_NoOf.f x873000 x873001).bind fun t879 => (if ((x5 == 0) == (x4 == t879)) = true then ((impl_AtomsOf.f k x873000).bind fun t880 => ((laws_hasInt.f k t880 x4).bind fun t883 => (if ((x5 == 1) == t883) = true then ((impl_YesOf.f x873000 x873001).bind fun t884 => (if x4 = t884 then (some true) else ((impl_YesOf.f x873000 x873001).bind fun t885 => ((impl_HighOf.f x873000 x873001 t885).bind fun t886 => (some (decide (x5 < t886))))))) else (some false)))) else (some false)))
def laws_FnHighOf.f (k : Nat) (l0 : List Int) : Option (Bool) := if (l0.length : Int) > 1048576 then (some true) else ((spec_DrawHighOf.f k l0).bind fun bt865 => ((impl_HighOf.f bt865.1 bt865.2.1 bt865.2.2).bind fun t873 => ((spec_HighOf.f k bt865.1 bt865.2.1 bt865.2.2).bind fun t874 => (if t873 = t874 then (if t873 < 0 then (if t873 = (-1) then ((laws_alive.f k).bind fun t875 => (some t875)) else (some false)) else (laws_FnHighOf.l0 k bt865.2.2 t873 0 bt865.1 bt865.2.1)) else (some false)))))
def laws_FnHighOf.T14 : Bool × List (List Nat × List Nat) := (true, [([], []), ([0], [0]), ([], []), ([], []), ([3], [3]), ([2, 4], [2, 4]), ([1, 5], [1, 5]), ([6, 4], [6]), ([7], [7]), ([8, 7], [7, 8]), ([7], [7]), ([10, 7], [7, 10]), ([11, 7, 7], [7, 11]), ([7], [7]), ([12, 13, 12, 7], [7, 12, 13]), ([9, 14, 7], [7, 9, 14]), ([7, 15], [7, 15]), ([16, 14], [16]), ([17], [17]), ([17], [17]), ([19, 17, 17], [17, 19]), ([18, 20, 17], [17, 18, 20]), ([21, 20, 17], [17, 21]), ([22], [22]), ([22], [22]), ([22], [22]), ([25, 22, 22], [22, 25]), ([24, 26, 26, 22], [22, 24, 26]), ([23, 27, 22], [22, 23, 27]), ([22, 28, 17], [17, 22, 28]), ([17, 29], [17, 29]), ([30, 27, 0, 1, 2, 3, 4, 5, 6, 7, 8, 9, 10, 11, 12, 13, 14, 15, 16, 17, 18, 19, 20, 21, 22, 23, 24, 25, 26, 27, 28, 29, 30], [30])])
def laws_FnHighOf.B14 : List Nat := [0, 1, 0, 0, 8, 28, 63, 127, 255, 511, 255, 1279, 3327, 255, 15615, 32767, 65535, 131071, 262143, 262143, 786431, 2097151, 4194303, 8388607, 8388607, 8388607, 41943039, 125829119, 268435455, 536870911, 1073741823, 2147483647]
theorem laws_FnHighOf.tab14 : rtab .any (opsOf Try.f9 14) = laws_FnHighOf.T14 := by kernel_rfl
theorem laws_FnHighOf.bits14 : waitsOk laws_FnHighOf.T14.2 laws_FnHighOf.B14 = true := by kernel_rfl
set_option maxHeartbeats 8000000 in
set_option maxRecDepth 100000 in
theorem laws_FnHighOf.calls (k : Nat) (A0 : Option Addr) (c0 : Nat) (l0 : List Int) (r : Bool) (w : World) (hr0 : Kd.C (Kd.int .u8) w A0 l0.length l0) (hc0 : l0.length ≤ c0) (h : laws_FnHighOf.f k l0 = some r) :
  Calls Try.prog 9 #[.slice A0 l0.length c0] w fun e w' => e = .returned (.bool r) ∧ Below w.heap.size w w' := by
 have hu30:=Try.underlying30;have i7:=zqm hr0;have i8:=zqm hc0;clear hr0 hc0;have HB:=zqm (Below.refl w.heap.size w);have H:(if(l0.length:Int)>1048576 then(some true) else((spec_DrawHighOf.f k l0).bind fun e0=>((impl_HighOf.f e0.1 e0.2.1 e0.2.2).bind fun a5=>((spec_HighOf.f k e0.1 e0.2.1 e0.2.2).bind fun b9=>(if a5=b9 then(if a5<0 then(if a5=(-1) then((laws_alive.f k).bind fun f0=>(some f0)) else(some false)) else(laws_FnHighOf.l0 k e0.2.2 a5 0 e0.1 e0.2.1)) else(some false))))))=some r:=h;clear h
 by_cases c2:(l0.length:Int)>1048576
 ·rw [if_pos c2] at H;have m1:decide (1048576<(l0.length:Int))=true:=decide_eq_true c2;have m2:decide (1048576<l0.length)=true:=decide_eq_true (by omega);clear c2;obtain rfl:=Option.some.inj H
  go_enter Try.func9,Try.ntmps9
  go_wp2
  go_ret
  exact⟨zq11,zq0⟩
 ·rw [if_neg c2] at H;have m1:decide (1048576<(l0.length:Int))=false:=decide_eq_false c2;have m2:decide (1048576<l0.length)=false:=decide_eq_false (by omega);clear c2;replace H:=Option.bind_eq_some_iff.mp H;obtain⟨⟨a1,a3,a4⟩,p6,H⟩:=H;replace H:((impl_HighOf.f a1 a3 a4).bind fun a5=>((spec_HighOf.f k a1 a3 a4).bind fun b9=>(if a5=b9 then(if a5<0 then(if a5=(-1) then((laws_alive.f k).bind fun f0=>(some f0)) else(some false)) else(laws_FnHighOf.l0 k a4 a5 0 a1 a3)) else(some false))))=some r:=H;have A3:=zqm p6;clear p6;replace H:=Option.bind_eq_some_iff.mp H;obtain⟨a5,p7,H⟩:=H;replace H:((spec_HighOf.f k a1 a3 a4).bind fun b9=>(if a5=b9 then(if a5<0 then(if a5=(-1) then((laws_alive.f k).bind fun f0=>(some f0)) else(some false)) else(laws_FnHighOf.l0 k a4 a5 0 a1 a3)) else(some false)))=some r:=H;have A4:=zqm p7;clear p7;replace H:=Option.bind_eq_some_iff.mp H;obtain⟨b9,g7,H⟩:=H;replace H:(if a5=b9 then(if a5<0 then(if a5=(-1) then((laws_alive.f k).bind fun f0=>(some f0)) else(some false)) else(laws_FnHighOf.l0 k a4 a5 0 a1 a3)) else(some false))=some r:=H;have A5:=zqm g7;clear g7
  by_cases c6:a5=b9
  ·rw [if_pos c6] at H;have m3:(a5==b9)=true:=beq_iff_eq.mpr c6;have m4:(a5 !=b9)=false:=bne_eq_false_iff_eq.mpr c6;clear c6
   by_cases c7:a5<0
   ·rw [if_pos c7] at H;have m5:decide (a5<0)=true:=decide_eq_true c7;clear c7
    by_cases c8:a5=(-1)
    ·rw [if_pos c8] at H;have m6:(a5==(-1))=true:=beq_iff_eq.mpr c8;have m7:(a5 !=(-1))=false:=bne_eq_false_iff_eq.mpr c8;clear c8;replace H:=Option.bind_eq_some_iff.mp H;obtain⟨f0,p8,H⟩:=H;replace H:(some f0)=some r:=H;have A9:=zqm p8;clear p8;obtain rfl:=Option.some.inj H
     go_enter Try.func9,Try.ntmps9
     go_wp2_with (first|((with_reducible refine gate_callee (f:=44) rfl ?_);refine goesL_ (some 12) rfl rfl Try.func44 zqk rfl #[.slice A0 l0.length c0] rfl zq1 ?_;(with_reducible refine(spec_DrawHighOf.calls k _ _ l0 a1 a3 a4 _ ?side1 ?side2 A3.out).mono ?_);(case side1=> exact zq270);(case side2=>exact i8.out);rintro e x5 ⟨i5,i6,rfl,b8,f6,hb⟩;refine⟨_,rfl,?_⟩;have a6:=zqm (Kd.S_lower b8 (below_size zq0));have a7:=zqm (Kd.Q_lower f6 (below_size zq0));replace HB:=zqm (below_step zq0 hb);clear hb b8 f6)|((with_reducible refine gate_dst (N:=3) rfl ?_);refine box_event ?hg (N:=3) ?hd (cs:= #[.slice none 0 0,.slice none 0 0]) (t:=30) ?hr ?_;(case hd=>rfl);(case hg=>rfl);(case hr=>first|(go_simp;done)|(go_simp;rfl));intro a2 hg p9 hbox hb;replace a6:=zqm (Kd.S_below zq76 hb);replace a7:=zqm (Kd.Q_below zq138 hb);have f7:=zqm (below_step zq0 hb);have a0:=zqm (hbox);have h9:=zqm ((by rw [hg];exact(below_size zq0):w.heap.size≤a2));have a8:=zqm ((by rw [hg];exact(below_size zq0):w.heap.size≤a2));clear HB;have HB:=f7;clear f7 hb hbox hg;obtain⟨e2,d5,q9⟩:=Kd.S_slice a6.out;subst q9;have j5:p9.cell? ⟨a2,0,none⟩=some (.slice none 0 0):=(blk_cell a0.out 0).trans rfl;have j6:p9.cell? ⟨a2,1,none⟩=some (.slice none 0 0):=(blk_cell a0.out 1).trans rfl;have j7:=blk_frozen a0.out 0;have j8:=blk_frozen a0.out 1;obtain⟨e3,d6,r0,_⟩:=Kd.Q_slice a7.out;subst r0)|((with_reducible refine gate_callee (f:=45) rfl ?_);refine goesL_ (some 17) rfl rfl Try.func45 zqk rfl #[.agg #[.slice e2 a1.length d5,.slice e3 a3.length d6],.int .i64 a4] rfl zq1 ?_;(with_reducible refine(impl_HighOf.calls _ _ a1 _ _ a3 a4 a5 _ ?side1 ?side2 ?side3 ?side4 A4.out).mono ?_);(case side1=>refine(Kd.S_reads' (e:=28) (base:=w.heap.size) (ok:=fun k_=>some k_≠(.slice e3 a3.length d6:Value).ownBlock) (n:=a1.length) (c:=d5) ?_).2.2;exact zq204);(case side2=>exact(Kd.S_reads' a6.out).2.1);(case side3=>refine(Kd.Q_reads' (e:=3) (base:=w.heap.size) (ok:=fun k_=>True) (n:=a3.length) (c:=d6) ?_).2.2;exact zq264);(case side4=>exact(Kd.Q_reads' a7.out).2.1);rintro e q0 ⟨rfl,hb⟩;refine⟨_,rfl,?_⟩;replace a6:=zqm (Kd.S_below zq204 hb);replace a7:=zqm (Kd.Q_below zq264 hb);replace a0:=zqm (blk_below (g:=a2) (o:= .cells #[.slice e2 a1.length d5,.slice e3 a3.length d6] 30 (0,0)) (by(with_reducible repeat(first|refine blk_drewN ?_ _|refine blk_drew ?_|refine blk_alloc ?_ _));refine blk_put (cs:= #[.slice e2 a1.length d5,.slice none 0 0]) ?_ 1 _ rfl;(with_reducible repeat(first|refine blk_drewN ?_ _|refine blk_drew ?_|refine blk_alloc ?_ _));refine blk_put (cs:= #[.slice none 0 0,.slice none 0 0]) ?_ 0 _ rfl;(with_reducible repeat(first|refine blk_drewN ?_ _|refine blk_drew ?_|refine blk_alloc ?_ _));exact a0.out) hb);replace HB:=zqm (below_step zq9 hb);clear hb;have j9:q0.cell? ⟨a2,0,none⟩=some (.slice e2 a1.length d5):=(blk_cell a0.out 0).trans rfl;have k0:q0.cell? ⟨a2,1,none⟩=some (.slice e3 a3.length d6):=(blk_cell a0.out 1).trans rfl;have k2:=blk_frozen a0.out 0;have k3:=blk_frozen a0.out 1)|((with_reducible refine gate_callee (f:=46) rfl ?_);refine goesL_ (some 21) rfl rfl Try.func46 zqk rfl #[.agg #[.slice e2 a1.length d5,.slice e3 a3.length d6],.int .i64 a4] rfl zq1 ?_;(with_reducible refine(spec_HighOf.calls k _ _ a1 _ _ a3 a4 b9 _ ?side1 ?side2 ?side3 ?side4 A5.out).mono ?_);(case side1=> exact zq119);(case side2=>exact(Kd.S_reads' a6.out).2.1);(case side3=> exact zq175);(case side4=>exact(Kd.Q_reads' a7.out).2.1);rintro e x6 ⟨rfl,hb⟩;refine⟨_,rfl,?_⟩;replace a6:=zqm (Kd.S_below zq76 hb);replace a7:=zqm (Kd.Q_below zq138 hb);replace a0:=zqm (blk_below (g:=a2) (o:= .cells #[.slice e2 a1.length d5,.slice e3 a3.length d6] 30 (0,0)) zq2 hb);replace HB:=zqm (below_step zq9 hb);clear hb)|(go_at_call 18;(with_reducible refine(laws_alive.calls k f0 _ A9.out).mono ?_);rintro e x7 ⟨rfl,hb⟩;replace a6:=zqm (Kd.S_below zq76 hb);replace a7:=zqm (Kd.Q_below zq138 hb);replace a0:=zqm (blk_below (g:=a2) (o:= .cells #[.slice e2 a1.length d5,.slice e3 a3.length d6] 30 (0,0)) zq2 hb);replace HB:=zqm (below_step zq9 hb);clear hb))
     go_ret
     exact⟨zq11,zq9⟩
    ·rw [if_neg c8] at H;have m6:(a5==(-1))=false:=beq_eq_false_iff_ne.mpr c8;have m7:(a5 !=(-1))=true:=bne_iff_ne.mpr c8;obtain rfl:=Option.some.inj H
     go_enter Try.func9,Try.ntmps9
     go_wp2_with (first|((with_reducible refine gate_callee (f:=44) rfl ?_);refine goesL_ (some 12) rfl rfl Try.func44 zqk rfl #[.slice A0 l0.length c0] rfl zq1 ?_;(with_reducible refine(spec_DrawHighOf.calls k _ _ l0 a1 a3 a4 _ ?side1 ?side2 A3.out).mono ?_);(case side1=> exact zq270);(case side2=>exact i8.out);rintro e x8 ⟨i5,i6,rfl,b8,f6,hb⟩;refine⟨_,rfl,?_⟩;have a6:=zqm (Kd.S_lower b8 (below_size zq0));have a7:=zqm (Kd.Q_lower f6 (below_size zq0));replace HB:=zqm (below_step zq0 hb);clear hb b8 f6)|((with_reducible refine gate_dst (N:=3) rfl ?_);refine box_event ?hg (N:=3) ?hd (cs:= #[.slice none 0 0,.slice none 0 0]) (t:=30) ?hr ?_;(case hd=>rfl);(case hg=>rfl);(case hr=>first|(go_simp;done)|(go_simp;rfl));intro a2 hg q1 hbox hb;replace a6:=zqm (Kd.S_below zq76 hb);replace a7:=zqm (Kd.Q_below zq138 hb);have f7:=zqm (below_step zq0 hb);have a0:=zqm (hbox);have h9:=zqm ((by rw [hg];exact(below_size zq0):w.heap.size≤a2));have a8:=zqm ((by rw [hg];exact(below_size zq0):w.heap.size≤a2));clear HB;have HB:=f7;clear f7 hb hbox hg;obtain⟨f1,e4,r1⟩:=Kd.S_slice a6.out;subst r1;have k4:q1.cell? ⟨a2,0,none⟩=some (.slice none 0 0):=(blk_cell a0.out 0).trans rfl;have k5:q1.cell? ⟨a2,1,none⟩=some (.slice none 0 0):=(blk_cell a0.out 1).trans rfl;have k6:=blk_frozen a0.out 0;have k7:=blk_frozen a0.out 1;obtain⟨f2,e5,r2,_⟩:=Kd.Q_slice a7.out;subst r2)|((with_reducible refine gate_callee (f:=45) rfl ?_);refine goesL_ (some 17) rfl rfl Try.func45 zqk rfl #[.agg #[.slice f1 a1.length e4,.slice f2 a3.length e5],.int .i64 a4] rfl zq1 ?_;(with_reducible refine(impl_HighOf.calls _ _ a1 _ _ a3 a4 a5 _ ?side1 ?side2 ?side3 ?side4 A4.out).mono ?_);(case side1=>refine(Kd.S_reads' (e:=28) (base:=w.heap.size) (ok:=fun k_=>some k_≠(.slice f2 a3.length e5:Value).ownBlock) (n:=a1.length) (c:=e4) ?_).2.2;exact zq254);(case side2=>exact(Kd.S_reads' a6.out).2.1);(case side3=>refine(Kd.Q_reads' (e:=3) (base:=w.heap.size) (ok:=fun k_=>True) (n:=a3.length) (c:=e5) ?_).2.2;exact zq252);(case side4=>exact(Kd.Q_reads' a7.out).2.1);rintro e q2 ⟨rfl,hb⟩;refine⟨_,rfl,?_⟩;replace a6:=zqm (Kd.S_below zq254 hb);replace a7:=zqm (Kd.Q_below zq252 hb);replace a0:=zqm (blk_below (g:=a2) (o:= .cells #[.slice f1 a1.length e4,.slice f2 a3.length e5] 30 (0,0)) (by(with_reducible repeat(first|refine blk_drewN ?_ _|refine blk_drew ?_|refine blk_alloc ?_ _));refine blk_put (cs:= #[.slice f1 a1.length e4,.slice none 0 0]) ?_ 1 _ rfl;(with_reducible repeat(first|refine blk_drewN ?_ _|refine blk_drew ?_|refine blk_alloc ?_ _));refine blk_put (cs:= #[.slice none 0 0,.slice none 0 0]) ?_ 0 _ rfl;(with_reducible repeat(first|refine blk_drewN ?_ _|refine blk_drew ?_|refine blk_alloc ?_ _));exact a0.out) hb);replace HB:=zqm (below_step zq9 hb);clear hb;have k8:q2.cell? ⟨a2,0,none⟩=some (.slice f1 a1.length e4):=(blk_cell a0.out 0).trans rfl;have k9:q2.cell? ⟨a2,1,none⟩=some (.slice f2 a3.length e5):=(blk_cell a0.out 1).trans rfl;have l1:=blk_frozen a0.out 0;have l2:=blk_frozen a0.out 1)|((with_reducible refine gate_callee (f:=46) rfl ?_);refine goesL_ (some 21) rfl rfl Try.func46 zqk rfl #[.agg #[.slice f1 a1.length e4,.slice f2 a3.length e5],.int .i64 a4] rfl zq1 ?_;(with_reducible refine(spec_HighOf.calls k _ _ a1 _ _ a3 a4 b9 _ ?side1 ?side2 ?side3 ?side4 A5.out).mono ?_);(case side1=> exact zq119);(case side2=>exact(Kd.S_reads' a6.out).2.1);(case side3=> exact zq175);(case side4=>exact(Kd.Q_reads' a7.out).2.1);rintro e x9 ⟨rfl,hb⟩;refine⟨_,rfl,?_⟩;replace a6:=zqm (Kd.S_below zq76 hb);replace a7:=zqm (Kd.Q_below zq138 hb);replace a0:=zqm (blk_below (g:=a2) (o:= .cells #[.slice f1 a1.length e4,.slice f2 a3.length e5] 30 (0,0)) zq2 hb);replace HB:=zqm (below_step zq9 hb);clear hb))
     go_ret
     exact⟨zq11,zq9⟩
   ·rw [if_neg c7] at H;have m5:decide (a5<0)=false:=decide_eq_false c7;clear c7;have H':=zqm H;clear H
    go_enter Try.func9,Try.ntmps9
    go_wp2_with (first|((with_reducible refine gate_callee (f:=44) rfl ?_);refine goesL_ (some 12) rfl rfl Try.func44 zqk rfl #[.slice A0 l0.length c0] rfl zq1 ?_;(with_reducible refine(spec_DrawHighOf.calls k _ _ l0 a1 a3 a4 _ ?side1 ?side2 A3.out).mono ?_);(case side1=> exact zq270);(case side2=>exact i8.out);rintro e y0 ⟨i5,i6,rfl,b8,f6,hb⟩;refine⟨_,rfl,?_⟩;have a6:=zqm (Kd.S_lower b8 (below_size zq0));have a7:=zqm (Kd.Q_lower f6 (below_size zq0));replace HB:=zqm (below_step zq0 hb);clear hb b8 f6)|((with_reducible refine gate_dst (N:=3) rfl ?_);refine box_event ?hg (N:=3) ?hd (cs:= #[.slice none 0 0,.slice none 0 0]) (t:=30) ?hr ?_;(case hd=>rfl);(case hg=>rfl);(case hr=>first|(go_simp;done)|(go_simp;rfl));intro a2 hg q3 hbox hb;replace a6:=zqm (Kd.S_below zq76 hb);replace a7:=zqm (Kd.Q_below zq138 hb);have f7:=zqm (below_step zq0 hb);have a0:=zqm (hbox);have h9:=zqm ((by rw [hg];exact(below_size zq0):w.heap.size≤a2));have a8:=zqm ((by rw [hg];exact(below_size zq0):w.heap.size≤a2));clear HB;have HB:=f7;clear f7 hb hbox hg;obtain⟨b1,a9,r3⟩:=Kd.S_slice a6.out;subst r3;have l3:q3.cell? ⟨a2,0,none⟩=some (.slice none 0 0):=(blk_cell a0.out 0).trans rfl;have l4:q3.cell? ⟨a2,1,none⟩=some (.slice none 0 0):=(blk_cell a0.out 1).trans rfl;have l5:=blk_frozen a0.out 0;have l6:=blk_frozen a0.out 1;obtain⟨b2,b0,r4,_⟩:=Kd.Q_slice a7.out;subst r4)|((with_reducible refine gate_callee (f:=45) rfl ?_);refine goesL_ (some 17) rfl rfl Try.func45 zqk rfl #[.agg #[.slice b1 a1.length a9,.slice b2 a3.length b0],.int .i64 a4] rfl zq1 ?_;(with_reducible refine(impl_HighOf.calls _ _ a1 _ _ a3 a4 a5 _ ?side1 ?side2 ?side3 ?side4 A4.out).mono ?_);(case side1=>refine(Kd.S_reads' (e:=28) (base:=w.heap.size) (ok:=fun k_=>some k_≠(.slice b2 a3.length b0:Value).ownBlock) (n:=a1.length) (c:=a9) ?_).2.2;exact zq232);(case side2=>exact(Kd.S_reads' a6.out).2.1);(case side3=>refine(Kd.Q_reads' (e:=3) (base:=w.heap.size) (ok:=fun k_=>True) (n:=a3.length) (c:=b0) ?_).2.2;exact zq200);(case side4=>exact(Kd.Q_reads' a7.out).2.1);rintro e q4 ⟨rfl,hb⟩;refine⟨_,rfl,?_⟩;replace a6:=zqm (Kd.S_below zq232 hb);replace a7:=zqm (Kd.Q_below zq200 hb);replace a0:=zqm (blk_below (g:=a2) (o:= .cells #[.slice b1 a1.length a9,.slice b2 a3.length b0] 30 (0,0)) (by(with_reducible repeat(first|refine blk_drewN ?_ _|refine blk_drew ?_|refine blk_alloc ?_ _));refine blk_put (cs:= #[.slice b1 a1.length a9,.slice none 0 0]) ?_ 1 _ rfl;(with_reducible repeat(first|refine blk_drewN ?_ _|refine blk_drew ?_|refine blk_alloc ?_ _));refine blk_put (cs:= #[.slice none 0 0,.slice none 0 0]) ?_ 0 _ rfl;(with_reducible repeat(first|refine blk_drewN ?_ _|refine blk_drew ?_|refine blk_alloc ?_ _));exact a0.out) hb);replace HB:=zqm (below_step zq9 hb);clear hb;have l7:q4.cell? ⟨a2,0,none⟩=some (.slice b1 a1.length a9):=(blk_cell a0.out 0).trans rfl;have l8:q4.cell? ⟨a2,1,none⟩=some (.slice b2 a3.length b0):=(blk_cell a0.out 1).trans rfl;have l9:=blk_frozen a0.out 0;have m0:=blk_frozen a0.out 1)|((with_reducible refine gate_callee (f:=46) rfl ?_);refine goesL_ (some 21) rfl rfl Try.func46 zqk rfl #[.agg #[.slice b1 a1.length a9,.slice b2 a3.length b0],.int .i64 a4] rfl zq1 ?_;(with_reducible refine(spec_HighOf.calls k _ _ a1 _ _ a3 a4 b9 _ ?side1 ?side2 ?side3 ?side4 A5.out).mono ?_);(case side1=> exact zq119);(case side2=>exact(Kd.S_reads' a6.out).2.1);(case side3=> exact zq175);(case side4=>exact(Kd.Q_reads' a7.out).2.1);rintro e y1 ⟨rfl,hb⟩;refine⟨_,rfl,?_⟩;replace a6:=zqm (Kd.S_below zq76 hb);replace a7:=zqm (Kd.Q_below zq138 hb);replace a0:=zqm (blk_below (g:=a2) (o:= .cells #[.slice b1 a1.length a9,.slice b2 a3.length b0] 30 (0,0)) zq2 hb);replace HB:=zqm (below_step zq9 hb);clear hb))
    go_loopg [6] k (fun kq v6 w'=> ∃(b3:Int),v6= .int .i64 b3∧Aside0 (laws_FnHighOf.l0 kq a4 a5 b3 a1 a3=some r)∧Aside0 (kq≤k)∧Aside0 (Kd.S (Kd.slice 3 (Kd.int .i64)) 28 w' w.heap.size (fun k_=>some k_≠((.slice b2 a3.length b0):Value).ownBlock) (.slice b1 a1.length a9) a1)∧Aside0 (Kd.Q (Kd.int .i64) 3 w' w.heap.size (fun _=>True) (.slice b2 a3.length b0) a3)∧Aside0 (w'.heap[a2]? =some (.cells #[(.slice b1 a1.length a9),(.slice b2 a3.length b0)] 30 (0,0)))∧Aside0 (Below w.heap.size w w'))
    case atStart=>exact⟨(0),(by first|rfl|(simp;done)|(simp [*];done)),H',⟨Nat.le_refl _⟩,⟨zq76⟩,⟨zq138⟩,⟨zq2⟩,⟨zq9⟩⟩
    case round=>
     clear H';(try clear c2);(try clear m1);(try clear m2);(try clear p2);(try clear c4);(try clear c6);(try clear m3);(try clear m4);(try clear c7);(try clear m5);(try clear c8);(try clear m6);(try clear m7);(try clear c9);(try clear j5);(try clear j6);(try clear j9);(try clear k0);(try clear k4);(try clear k5);(try clear k8);(try clear k9);(try clear l3);(try clear l4);(try clear l7);(try clear l8);(try clear j7);(try clear j8);(try clear k2);(try clear k3);(try clear k6);(try clear k7);(try clear l1);(try clear l2);(try clear l5);(try clear l6);(try clear l9);(try clear m0);obtain⟨b3,rfl,HA,h3,HO_873000,HO_873001,a0,HB⟩:=hrel
     cases gk with
     |zero=>exact absurd HA.out (by simp [laws_FnHighOf.l0])
     |succ k1=>
      have H:=HA.out;clear HA;simp only [laws_FnHighOf.l0] at H
      by_cases h4:b3<(a3.length:Int)
      ·rw [if_pos h4] at H;have o1:decide (b3<(a3.length:Int))=true:=decide_eq_true h4;clear h4
       by_cases g8:b3=a4
       ·rw [if_pos g8] at H;have o2:(b3==a4)=true:=beq_iff_eq.mpr g8;have o3:(b3 !=a4)=false:=bne_eq_false_iff_eq.mpr g8;clear g8;have H':=zqm H;clear H;have s5:wr.cell? ⟨a2,0,none⟩=some (.slice b1 a1.length a9):=(blk_cell a0.out 0).trans rfl;have s6:wr.cell? ⟨a2,1,none⟩=some (.slice b2 a3.length b0):=(blk_cell a0.out 1).trans rfl;have s7:=blk_frozen a0.out 0;have s8:=blk_frozen a0.out 1
        go_wp2
        go_roundg k1
        (case measure=>have:=h3.out;omega);case rel=>exact⟨(wrap64 (b3+1)),(by first|rfl|(simp;done)|(simp [*];done)),H',⟨by have:=h3.out;omega⟩,⟨zq75⟩,⟨zq59⟩,⟨zq2⟩,⟨zq9⟩⟩
       ·rw [if_neg g8] at H;have o2:(b3==a4)=false:=beq_eq_false_iff_ne.mpr g8;have o3:(b3 !=a4)=true:=bne_iff_ne.mpr g8
        by_cases i9:0≤b3
        ·rw [if_pos i9] at H;have w9:decide (0≤b3)=true:=decide_eq_true i9;clear i9
         by_cases j0:b3<(a1.length:Int)
         ·rw [if_pos j0] at H;have x0:decide (b3<(a1.length:Int))=true:=decide_eq_true j0;clear j0
          by_cases j1:0≤a4
          ·rw [if_pos j1] at H;have x1:decide (0≤a4)=true:=decide_eq_true j1;clear j1
           by_cases j2:a4<((rd_L3 a1 b3).length:Int)
           ·rw [if_pos j2] at H;have x2:decide (a4<((rd_L3 a1 b3).length:Int))=true:=decide_eq_true j2;clear j2
            by_cases g9:(rd (rd_L3 a1 b3) a4)=1
            ·rw [if_pos g9] at H;have o4:((rd (rd_L3 a1 b3) a4)==1)=true:=beq_iff_eq.mpr g9;have o5:((rd (rd_L3 a1 b3) a4) !=1)=false:=bne_eq_false_iff_eq.mpr g9;clear g9;replace H:=Option.bind_eq_some_iff.mp H;obtain⟨g2,m8,H⟩:=H;replace H:(if g2≥a5 then(some false) else(laws_FnHighOf.l0 k1 a4 a5 (wrap64 (b3+1)) a1 a3))=some r:=H;have q5:=zqm m8;clear m8
             by_cases h5:g2≥a5
             ·rw [if_pos h5] at H;have o6:decide (a5≤g2)=true:=decide_eq_true h5;clear h5;obtain rfl:=Option.some.inj H;have s9:wr.cell? ⟨a2,0,none⟩=some (.slice b1 a1.length a9):=(blk_cell a0.out 0).trans rfl;have t0:wr.cell? ⟨a2,1,none⟩=some (.slice b2 a3.length b0):=(blk_cell a0.out 1).trans rfl;have t1:=blk_frozen a0.out 0;have t2:=blk_frozen a0.out 1;have d0:0≤(b3:Int):=zqo;have d1:b3<(a1.length:Int):=zqo;obtain⟨g6,i0,i1,h0,f5,c3,c5⟩:=at_L3 (Kd.S_reads' HO_873000.out).2.2 b3 d0 d1
              cases h0
              obtain⟨j3,f8,f9,d4⟩:=Kd.S_get HO_873000.out [] b3 d0 zq383;obtain⟨h6,rfl,b7⟩:=f9;have b4:=d4 0 _ rfl;rw [Nat.add_zero,show ((Kd.slice 3 (Kd.int .i64))).sz=1 from rfl,Nat.mul_one] at b4;replace b4:=Option.some.inj (b4.symm.trans f5);rw [b4] at b7;have e1:=zqm (show Kd.R (Kd.int .i64) 3 _ _ _ _ (rd_L3 a1 b3) from b7);clear b4 b7 d4 f8;have b5:=zqm c5;have h7:=zqm c3;clear c5 c3;replace d0:=eq_true d0;replace d1:=eq_true d1;have e6:0≤(a4:Int):=zqo;have e7:a4<((rd_L3 a1 b3).length:Int):=zqo;obtain⟨j4,h1,h8⟩:=Kd.at_int zq149 a4 e6 e7
              cases h1
              replace e6:=eq_true e6;replace e7:=eq_true e7
              go_wp2_with (first|(go_at_call 45;(with_reducible refine(impl_HighOf.calls _ _ a1 _ _ a3 b3 g2 _ ?side1 ?side2 ?side3 ?side4 q5.out).mono ?_);(case side1=> exact zq53);(case side2=>exact(Kd.S_reads' HO_873000.out).2.1);(case side3=> exact zq73);(case side4=>exact(Kd.Q_reads' HO_873001.out).2.1);rintro e y2 ⟨rfl,hb⟩;replace HO_873000:=zqm (Kd.S_below zq75 hb);replace HO_873001:=zqm (Kd.Q_below zq59 hb);replace e1:=zqm (Kd.R_below zq366 hb);replace a0:=zqm (blk_below (g:=a2) (o:= .cells #[.slice (some g6) a1.length a9,.slice b2 a3.length b0] 30 (0,0)) zq2 hb);replace b5:=zqm (Kd.C_below zq149 hb);replace HB:=zqm (below_step zq9 hb);clear hb))
              go_ret
              exact⟨zq11,zq9⟩
             ·rw [if_neg h5] at H;have o6:decide (a5≤g2)=false:=decide_eq_false h5;clear h5;have H':=zqm H;clear H;have t3:wr.cell? ⟨a2,0,none⟩=some (.slice b1 a1.length a9):=(blk_cell a0.out 0).trans rfl;have t4:wr.cell? ⟨a2,1,none⟩=some (.slice b2 a3.length b0):=(blk_cell a0.out 1).trans rfl;have t5:=blk_frozen a0.out 0;have t6:=blk_frozen a0.out 1;have d0:0≤(b3:Int):=zqo;have d1:b3<(a1.length:Int):=zqo;obtain⟨g6,i0,i1,h0,f5,c3,c5⟩:=at_L3 (Kd.S_reads' HO_873000.out).2.2 b3 d0 d1
              cases h0
              obtain⟨j3,f8,f9,d4⟩:=Kd.S_get HO_873000.out [] b3 d0 zq383;obtain⟨h6,rfl,b7⟩:=f9;have b4:=d4 0 _ rfl;rw [Nat.add_zero,show ((Kd.slice 3 (Kd.int .i64))).sz=1 from rfl,Nat.mul_one] at b4;replace b4:=Option.some.inj (b4.symm.trans f5);rw [b4] at b7;have e1:=zqm (show Kd.R (Kd.int .i64) 3 _ _ _ _ (rd_L3 a1 b3) from b7);clear b4 b7 d4 f8;have b5:=zqm c5;have h7:=zqm c3;clear c5 c3;replace d0:=eq_true d0;replace d1:=eq_true d1;have e6:0≤(a4:Int):=zqo;have e7:a4<((rd_L3 a1 b3).length:Int):=zqo;obtain⟨j4,h1,h8⟩:=Kd.at_int zq149 a4 e6 e7
              cases h1
              replace e6:=eq_true e6;replace e7:=eq_true e7
              go_wp2_with (first|(go_at_call 45;(with_reducible refine(impl_HighOf.calls _ _ a1 _ _ a3 b3 g2 _ ?side1 ?side2 ?side3 ?side4 q5.out).mono ?_);(case side1=> exact zq53);(case side2=>exact(Kd.S_reads' HO_873000.out).2.1);(case side3=> exact zq73);(case side4=>exact(Kd.Q_reads' HO_873001.out).2.1);rintro e y3 ⟨rfl,hb⟩;replace HO_873000:=zqm (Kd.S_below zq75 hb);replace HO_873001:=zqm (Kd.Q_below zq59 hb);replace e1:=zqm (Kd.R_below zq366 hb);replace a0:=zqm (blk_below (g:=a2) (o:= .cells #[.slice (some g6) a1.length a9,.slice b2 a3.length b0] 30 (0,0)) zq2 hb);replace b5:=zqm (Kd.C_below zq149 hb);replace HB:=zqm (below_step zq9 hb);clear hb))
              go_roundg k1
              (case measure=>have:=h3.out;omega);case rel=>exact⟨(wrap64 (b3+1)),(by first|rfl|(simp;done)|(simp [*];done)),H',⟨by have:=h3.out;omega⟩,⟨zq75⟩,⟨zq59⟩,⟨zq2⟩,⟨zq9⟩⟩
            ·rw [if_neg g9] at H;have o4:((rd (rd_L3 a1 b3) a4)==1)=false:=beq_eq_false_iff_ne.mpr g9;have o5:((rd (rd_L3 a1 b3) a4) !=1)=true:=bne_iff_ne.mpr g9;have H':=zqm H;clear H;have t7:wr.cell? ⟨a2,0,none⟩=some (.slice b1 a1.length a9):=(blk_cell a0.out 0).trans rfl;have t8:wr.cell? ⟨a2,1,none⟩=some (.slice b2 a3.length b0):=(blk_cell a0.out 1).trans rfl;have t9:=blk_frozen a0.out 0;have u0:=blk_frozen a0.out 1;have d0:0≤(b3:Int):=zqo;have d1:b3<(a1.length:Int):=zqo;obtain⟨g6,i0,i1,h0,f5,c3,c5⟩:=at_L3 (Kd.S_reads' HO_873000.out).2.2 b3 d0 d1
             cases h0
             obtain⟨j3,f8,f9,d4⟩:=Kd.S_get HO_873000.out [] b3 d0 zq383;obtain⟨h6,rfl,b7⟩:=f9;have b4:=d4 0 _ rfl;rw [Nat.add_zero,show ((Kd.slice 3 (Kd.int .i64))).sz=1 from rfl,Nat.mul_one] at b4;replace b4:=Option.some.inj (b4.symm.trans f5);rw [b4] at b7;have e1:=zqm (show Kd.R (Kd.int .i64) 3 _ _ _ _ (rd_L3 a1 b3) from b7);clear b4 b7 d4 f8;have b5:=zqm c5;have h7:=zqm c3;clear c5 c3;replace d0:=eq_true d0;replace d1:=eq_true d1;have e6:0≤(a4:Int):=zqo;have e7:a4<((rd_L3 a1 b3).length:Int):=zqo;obtain⟨j4,h1,h8⟩:=Kd.at_int zq149 a4 e6 e7
             cases h1
             replace e6:=eq_true e6;replace e7:=eq_true e7
             go_wp2
             go_roundg k1
             (case measure=>have:=h3.out;omega);case rel=>exact⟨(wrap64 (b3+1)),(by first|rfl|(simp;done)|(simp [*];done)),H',⟨by have:=h3.out;omega⟩,⟨zq75⟩,⟨zq59⟩,⟨zq2⟩,⟨zq9⟩⟩
           ·rw [if_neg j2] at H;exact absurd H (by simp)
          ·rw [if_neg j1] at H;exact absurd H (by simp)
         ·rw [if_neg j0] at H;exact absurd H (by simp)
        ·rw [if_neg i9] at H;exact absurd H (by simp)
      ·rw [if_neg h4] at H;have o1:decide (b3<(a3.length:Int))=false:=decide_eq_false h4;clear h4;replace H:=Option.bind_eq_some_iff.mp H;obtain⟨d3,m9,H⟩:=H;replace H:(if((a5==0)==(a4==d3))=true then((impl_AtomsOf.f k1 a1).bind fun d7=>((laws_hasInt.f k1 d7 a4).bind fun c1=>(if((a5==1)==c1)=true then((impl_YesOf.f a1 a3).bind fun d2=>(if a4=d2 then(some true) else((impl_YesOf.f a1 a3).bind fun d8=>((impl_HighOf.f a1 a3 d8).bind fun d9=>(some (decide (a5<d9))))))) else(some false)))) else(some false))=some r:=H;have g7:=zqm m9;clear m9
       by_cases g0:((a5==0)==(a4==d3))=true
       ·rw [if_pos g0] at H;have o7:((a5==0)==(a4==d3))=true:=g0;(try(have o8:decide ((a5==0)=(a4==d3))=true:=by simpa using g0));(try(have o9:((a5==0)==(a4==d3))=true:=by simpa using g0));clear g0;replace H:=Option.bind_eq_some_iff.mp H;obtain⟨d7,n0,H⟩:=H;replace H:((laws_hasInt.f k1 d7 a4).bind fun c1=>(if((a5==1)==c1)=true then((impl_YesOf.f a1 a3).bind fun d2=>(if a4=d2 then(some true) else((impl_YesOf.f a1 a3).bind fun d8=>((impl_HighOf.f a1 a3 d8).bind fun d9=>(some (decide (a5<d9))))))) else(some false)))=some r:=H;have n1:=zqm n0;clear n0;replace H:=Option.bind_eq_some_iff.mp H;obtain⟨c1,n2,H⟩:=H;replace H:(if((a5==1)==c1)=true then((impl_YesOf.f a1 a3).bind fun d2=>(if a4=d2 then(some true) else((impl_YesOf.f a1 a3).bind fun d8=>((impl_HighOf.f a1 a3 d8).bind fun d9=>(some (decide (a5<d9))))))) else(some false))=some r:=H;have n3:=zqm n2;clear n2
        by_cases g1:((a5==1)==c1)=true
        ·rw [if_pos g1] at H;have p0:((a5==1)==c1)=true:=g1;(try(have p1:decide ((a5==1)=c1)=true:=by simpa using g1));(try(have p3:((a5==1)==c1)=true:=by simpa using g1));clear g1;replace H:=Option.bind_eq_some_iff.mp H;obtain⟨d2,n4,H⟩:=H;replace H:(if a4=d2 then(some true) else((impl_YesOf.f a1 a3).bind fun d8=>((impl_HighOf.f a1 a3 d8).bind fun d9=>(some (decide (a5<d9))))))=some r:=H;have q6:=zqm n4;clear n4
         by_cases h2:a4=d2
         ·rw [if_pos h2] at H;have p4:(a4==d2)=true:=beq_iff_eq.mpr h2;have p5:(a4 !=d2)=false:=bne_eq_false_iff_eq.mpr h2;clear h2;obtain rfl:=Option.some.inj H;have u1:wr.cell? ⟨a2,0,none⟩=some (.slice b1 a1.length a9):=(blk_cell a0.out 0).trans rfl;have u2:wr.cell? ⟨a2,1,none⟩=some (.slice b2 a3.length b0):=(blk_cell a0.out 1).trans rfl;have u3:=blk_frozen a0.out 0;have u4:=blk_frozen a0.out 1;(try go_wp2);replace HO_873000:=zqm (Kd.S_drew HO_873000.out);replace HO_873001:=zqm (Kd.Q_drew HO_873001.out);replace a0:=zqm (blk_drew a0.out);replace HB:=zqm (below_drew1 HB.out);refine start_ (n:=32) (S:=fun w'=>w'.cell? ⟨a2,0,none⟩=some (.slice b1 a1.length a9)∧w'.cell? ⟨a2,1,none⟩=some (.slice b2 a3.length b0)) (ds:= []) (zqb 32 0) zqk rfl rfl ⟨(blk_cell a0.out 0).trans rfl,(blk_cell a0.out 1).trans rfl⟩ (fun hHeld=>?_);refine with_tabW laws_FnHighOf.tab14 laws_FnHighOf.bits14 (fun HT_ HW_=>?_);generalize wr.drew=y4 at HO_873000 HO_873001 a0 HB hHeld ⊢;refine pure_ (i:=0) (N:=some 58) (v:=?_) (a':=?_) (zqb 32 1) rfl rfl (any_of HT_.out zqk) (fun _ _ _ h=>h) (Or.inl ⟨by rfl,?_⟩) ?_ ?_;rotate_left
          ·exact zqt
          rotate_left
          ·exact zqs
          refine pure_ (i:=1) (N:=some 59) (v:=?_) (a':=?_) (zqb 32 3) rfl rfl (any_of HT_.out zqk) (fun _ _ _ h=>h) (Or.inl ⟨by rfl,?_⟩) ?_ ?_;rotate_left
          ·exact zqt
          rotate_left
          ·exact zqs
          refine pure_ (i:=2) (N:=some 60) (v:=?_) (a':=?_) (zqb 32 7) rfl rfl (any_of HT_.out zqk) (fun _ _ _ h=>h) (Or.inl ⟨by rfl,?_⟩) ?_ ?_;rotate_left
          ·exact zqt
          rotate_left
          ·exact zqs
          refine take_ (i:=3) (N:=some 61) (v:=?_) (a':=?_) (zqb 32 15) rfl rfl (take_ofW HT_.out HW_.out zqk) (fun _ _ _ h=>h) (Or.inl ⟨by rfl,?_⟩) hHeld ?_ ?_;rotate_left
          ·rintro w' ⟨s0,s1⟩;go_simp;with_reducible rfl
          rotate_left
          ·exact zqs
          refine one_ (i:=4) (N:=some 62) (zqb 32 31) rfl rfl (one_of HT_.out zqk) (by decide) (fun K hK=>?_);refine goes_ Try.func47 zqk rfl #[.agg #[.slice b1 a1.length a9,.slice b2 a3.length b0]] (by rfl) rfl rfl zq1 ?_;(with_reducible refine(impl_NoOf.calls _ _ a1 _ _ a3 d3 _ ?side1 ?side2 ?side3 ?side4 g7.out).mono ?_);(case side1=> exact zq53);(case side2=>exact(Kd.S_reads' HO_873000.out).2.1);(case side3=> exact zq73);(case side4=>exact(Kd.Q_reads' HO_873001.out).2.1);rintro e y5 ⟨rfl,hb⟩;refine⟨_,rfl,?_⟩;replace HO_873000:=zqm (Kd.S_below zq75 hb);replace HO_873001:=zqm (Kd.Q_below zq59 hb);replace a0:=zqm (blk_below (g:=a2) (o:= .cells #[.slice b1 a1.length a9,.slice b2 a3.length b0] 30 (0,0)) zq2 hb);replace HB:=zqm (below_step zq9 hb);clear hb;refine hK.out _ _ ⟨(blk_cell a0.out 0).trans rfl,(blk_cell a0.out 1).trans rfl⟩ (fun hHeld=>?_);clear hK K;refine norm_ (a':=?_) ?_ ?_;rotate_left
          ·show Act.put _ (some 62) _=_;exact zqs
          refine pure_ (i:=5) (N:=some 63) (v:=?_) (a':=?_) (zqb 32 63) rfl rfl (any_of HT_.out zqk) (fun _ _ _ h=>h) (Or.inl ⟨by rfl,?_⟩) ?_ ?_;rotate_left
          ·exact zqt
          rotate_left
          ·exact zqs
          refine pure_ (i:=6) (N:=some 64) (v:=?_) (a':=?_) (zqb 32 127) rfl rfl (any_of HT_.out zqk) (fun _ _ _ h=>h) (Or.inl ⟨by rfl,?_⟩) ?_ ?_;rotate_left
          ·exact zqt
          rotate_left
          ·exact zqs
          refine pure_ (i:=7) (N:=some 65) (v:=?_) (a':=?_) (zqb 32 255) rfl rfl (any_of HT_.out zqk) (fun _ _ _ h=>h) (Or.inl ⟨by rfl,?_⟩) ?_ ?_;rotate_left
          ·exact zqt
          rotate_left
          ·exact zqs
          refine pure_ (i:=8) (N:=some 66) (v:=?_) (a':=?_) (zqb 32 511) rfl rfl (any_of HT_.out zqk) (fun _ _ _ h=>h) (Or.inl ⟨by rfl,?_⟩) ?_ ?_;rotate_left
          ·exact zqt
          rotate_left
          ·exact zqs
          refine pure_ (i:=9) (N:=some 67) (v:=?_) (a':=?_) (zqb 32 1023) rfl rfl (any_of HT_.out zqk) (fun _ _ _ h=>h) (Or.inl ⟨by rfl,?_⟩) ?_ ?_;rotate_left
          ·exact zqt
          rotate_left
          ·exact zqs
          refine pure_ (i:=10) (N:=some 68) (v:=?_) (a':=?_) (zqb 32 2047) rfl rfl (any_of HT_.out zqk) (fun _ _ _ h=>h) (Or.inl ⟨by rfl,?_⟩) ?_ ?_;rotate_left
          ·exact zqt
          rotate_left
          ·exact zqs
          refine pure_ (i:=13) (N:=some 71) (v:=?_) (a':=?_) (zqb 32 10239) rfl rfl (any_of HT_.out zqk) (fun _ _ _ h=>h) (Or.inl ⟨by rfl,?_⟩) ?_ ?_;rotate_left
          ·exact zqt
          rotate_left
          ·exact zqs
          refine take_ (i:=11) (N:=some 69) (v:=?_) (a':=?_) (zqb 32 12287) rfl rfl (take_ofW HT_.out HW_.out zqk) (fun _ _ _ h=>h) (Or.inl ⟨by rfl,?_⟩) hHeld ?_ ?_;rotate_left
          ·rintro w' ⟨s0,s1⟩;go_simp;with_reducible rfl
          rotate_left
          ·exact zqs
          refine one_ (i:=12) (N:=some 70) (zqb 32 16383) rfl rfl (one_of HT_.out zqk) (by decide) (fun K hK=>?_);refine goes_ Try.func49 zqk rfl #[.slice b1 a1.length a9] (by rfl) rfl rfl zq1 ?_;(with_reducible refine(impl_AtomsOf.calls k1 _ _ a1 d7 _ ?side1 ?side2 n1.out).mono ?_);(case side1=> exact zq53);(case side2=>exact(Kd.S_reads' HO_873000.out).2.1);rintro e y6 ⟨n5,rfl,b8,hb⟩;refine⟨_,rfl,?_⟩;replace HO_873000:=zqm (Kd.S_elder' zq75 (Kd.R_base b8) hb);have g3:=zqm (Kd.Q_elder' zq59 (Kd.R_base b8) hb);have b6:=zqm (Kd.R_lower (Kd.R_new' b8 (Kd.Q_lt zq59)) (below_size zq9));replace a0:=zqm (blk_below (g:=a2) (o:= .cells #[.slice b1 a1.length a9,.slice b2 a3.length b0] 30 (0,0)) zq2 hb);replace HB:=zqm (below_step zq9 hb);clear HO_873001;have HO_873001:=g3;clear g3 hb b8;obtain⟨r5,r6,n6⟩:=Kd.R_slice b6.out;(first|subst n6|(injection n6 with g4 i2 g5;have i3:=g4.symm;have i4:=g5.symm;clear g4 i2 g5;subst i3;subst i4));refine hK.out _ _ ⟨(blk_cell a0.out 0).trans rfl,(blk_cell a0.out 1).trans rfl⟩ (fun hHeld=>?_);clear hK K;refine norm_ (a':=?_) ?_ ?_;rotate_left
          ·show Act.put _ (some 70) _=_;exact zqs
          refine one_ (i:=14) (N:=some 72) (zqb 32 32767) rfl rfl (one_of HT_.out zqk) (by decide) (fun K hK=>?_);refine goes_ Try.func48 zqk rfl #[.slice r5 d7.length r6,.int .i64 a4] (by rfl) rfl rfl zq1 ?_;(with_reducible refine(laws_hasInt.calls k1 _ _ d7 a4 c1 _ ?side1 ?side2 n3.out).mono ?_);(case side1=> exact zq296);(case side2=>exact(Kd.R_reads' b6.out).2.1);rintro e w' ⟨rfl,⟨nd,rfl⟩⟩;refine⟨_,rfl,?_⟩;refine hK.out _ _ ⟨(blk_cell a0.out 0).trans rfl,(blk_cell a0.out 1).trans rfl⟩ (fun hHeld=>?_);clear hK K;refine norm_ (a':=?_) ?_ ?_;rotate_left
          ·show Act.put _ (some 72) _=_;exact zqs
          refine pure_ (i:=15) (N:=some 73) (v:=?_) (a':=?_) (zqb 32 65535) rfl rfl (any_of HT_.out zqk) (fun _ _ _ h=>h) (Or.inl ⟨by rfl,?_⟩) ?_ ?_;rotate_left
          ·exact zqt
          rotate_left
          ·exact zqs
          refine pure_ (i:=16) (N:=some 74) (v:=?_) (a':=?_) (zqb 32 131071) rfl rfl (any_of HT_.out zqk) (fun _ _ _ h=>h) (Or.inl ⟨by rfl,?_⟩) ?_ ?_;rotate_left
          ·exact zqt
          rotate_left
          ·exact zqs
          refine pure_ (i:=17) (N:=some 75) (v:=?_) (a':=?_) (zqb 32 262143) rfl rfl (any_of HT_.out zqk) (fun _ _ _ h=>h) (Or.inl ⟨by rfl,?_⟩) ?_ ?_;rotate_left
          ·exact zqt
          rotate_left
          ·exact zqs
          refine pure_ (i:=18) (N:=some 76) (v:=?_) (a':=?_) (zqb 32 524287) rfl rfl (any_of HT_.out zqk) (fun _ _ _ h=>h) (Or.inl ⟨by rfl,?_⟩) ?_ ?_;rotate_left
          ·exact zqt
          rotate_left
          ·exact zqs
          refine take_ (i:=19) (N:=some 77) (v:=?_) (a':=?_) (zqb 32 1048575) rfl rfl (take_ofW HT_.out HW_.out zqk) (fun _ _ _ h=>h) (Or.inl ⟨by rfl,?_⟩) hHeld ?_ ?_;rotate_left
          ·rintro w' ⟨s0,s1⟩;go_simp;with_reducible rfl
          rotate_left
          ·exact zqs
          refine one_ (i:=20) (N:=some 78) (zqb 32 2097151) rfl rfl (one_of HT_.out zqk) (by decide) (fun K hK=>?_);refine goes_ Try.func34 zqk rfl #[.agg #[.slice b1 a1.length a9,.slice b2 a3.length b0]] (by rfl) rfl rfl zq1 ?_;(with_reducible refine(impl_YesOf.calls _ _ a1 _ _ a3 d2 _ ?side1 ?side2 ?side3 ?side4 q6.out).mono ?_);(case side1=> exact zq53);(case side2=>exact(Kd.S_reads' HO_873000.out).2.1);(case side3=> exact zq73);(case side4=>exact(Kd.Q_reads' HO_873001.out).2.1);rintro e y7 ⟨rfl,hb⟩;refine⟨_,rfl,?_⟩;replace HO_873000:=zqm (Kd.S_below zq75 hb);replace HO_873001:=zqm (Kd.Q_below zq59 hb);replace b6:=zqm (Kd.R_below zq165 hb);replace a0:=zqm (blk_below (g:=a2) (o:= .cells #[.slice b1 a1.length a9,.slice b2 a3.length b0] 30 (0,0)) zq2 hb);replace HB:=zqm (below_step zq9 hb);clear hb;refine hK.out _ _ ⟨(blk_cell a0.out 0).trans rfl,(blk_cell a0.out 1).trans rfl⟩ (fun hHeld=>?_);clear hK K;refine norm_ (a':=?_) ?_ ?_;rotate_left
          ·show Act.put _ (some 78) _=_;exact zqs
          refine pure_ (i:=21) (N:=some 79) (v:=?_) (a':=?_) (zqb 32 4194303) rfl rfl (any_of HT_.out zqk) (fun _ _ _ h=>h) (Or.inl ⟨by rfl,?_⟩) ?_ ?_;rotate_left
          ·exact zqt
          rotate_left
          ·exact zqs
          refine pure_ (i:=22) (N:=some 80) (v:=?_) (a':=?_) (zqb 32 8388607) rfl rfl (any_of HT_.out zqk) (fun _ _ _ h=>h) (Or.inl ⟨by rfl,?_⟩) ?_ ?_;rotate_left
          ·exact zqt
          rotate_left
          ·exact zqs
          refine pure_ (i:=23) (N:=some 81) (v:=undef) (a':=?_) (zqb 32 16777215) rfl rfl (any_of HT_.out zqk) (fun _ _ _ h=>h) (Or.inr ⟨by rfl,rfl⟩) ?_ ?_;rotate_left
          ·exact zqs
          refine pure_ (i:=24) (N:=some 82) (v:=undef) (a':=?_) (zqb 32 33554431) rfl rfl (any_of HT_.out zqk) (fun _ _ _ h=>h) (Or.inr ⟨by rfl,rfl⟩) ?_ ?_;rotate_left
          ·exact zqs
          refine pure_ (i:=25) (N:=some 83) (v:=undef) (a':=?_) (zqb 32 67108863) rfl rfl (any_of HT_.out zqk) (fun _ _ _ h=>h) (Or.inr ⟨by rfl,rfl⟩) ?_ ?_;rotate_left
          ·exact zqs
          refine pure_ (i:=26) (N:=some 84) (v:=undef) (a':=?_) (zqb 32 134217727) rfl rfl (any_of HT_.out zqk) (fun _ _ _ h=>h) (Or.inr ⟨by rfl,rfl⟩) ?_ ?_;rotate_left
          ·exact zqs
          refine pure_ (i:=27) (N:=some 85) (v:=undef) (a':=?_) (zqb 32 268435455) rfl rfl (any_of HT_.out zqk) (fun _ _ _ h=>h) (Or.inr ⟨by rfl,rfl⟩) ?_ ?_;rotate_left
          ·exact zqs
          refine pure_ (i:=28) (N:=some 86) (v:=undef) (a':=?_) (zqb 32 536870911) rfl rfl (any_of HT_.out zqk) (fun _ _ _ h=>h) (Or.inr ⟨by rfl,rfl⟩) ?_ ?_;rotate_left
          ·exact zqs
          refine pure_ (i:=29) (N:=some 87) (v:=?_) (a':=?_) (zqb 32 1073741823) rfl rfl (any_of HT_.out zqk) (fun _ _ _ h=>h) (Or.inl ⟨by rfl,?_⟩) ?_ ?_;rotate_left
          ·exact zqt
          rotate_left
          ·exact zqs
          refine pure_ (i:=30) (N:=some 88) (v:=?_) (a':=?_) (zqb 32 2147483647) rfl rfl (any_of HT_.out zqk) (fun _ _ _ h=>h) (Or.inl ⟨by rfl,?_⟩) ?_ ?_;rotate_left
          ·exact zqt
          rotate_left
          ·exact zqs
          refine pure_ (i:=31) (N:=some 2) (v:=?_) (a':=?_) (zqb 32 4294967295) rfl rfl (any_of HT_.out zqk) (fun _ _ _ h=>h) (Or.inl ⟨by rfl,?_⟩) ?_ ?_;rotate_left
          ·exact zqt
          rotate_left
          ·exact zqs
          refine done_ (done_of HT_.out zqk) ?_;try go_wp2
          go_ret
          exact⟨zq11,zq9⟩
         ·rw [if_neg h2] at H;have p4:(a4==d2)=false:=beq_eq_false_iff_ne.mpr h2;have p5:(a4 !=d2)=true:=bne_iff_ne.mpr h2;replace H:=Option.bind_eq_some_iff.mp H;obtain⟨d8,n7,H⟩:=H;replace H:((impl_HighOf.f a1 a3 d8).bind fun d9=>(some (decide (a5<d9))))=some r:=H;have w7:=zqm n7;clear n7;replace H:=Option.bind_eq_some_iff.mp H;obtain⟨d9,n8,H⟩:=H;replace H:(some (decide (a5<d9)))=some r:=H;have w8:=zqm n8;clear n8;obtain rfl:=Option.some.inj H;have u5:wr.cell? ⟨a2,0,none⟩=some (.slice b1 a1.length a9):=(blk_cell a0.out 0).trans rfl;have u6:wr.cell? ⟨a2,1,none⟩=some (.slice b2 a3.length b0):=(blk_cell a0.out 1).trans rfl;have u7:=blk_frozen a0.out 0;have u9:=blk_frozen a0.out 1;(try go_wp2);replace HO_873000:=zqm (Kd.S_drew HO_873000.out);replace HO_873001:=zqm (Kd.Q_drew HO_873001.out);replace a0:=zqm (blk_drew a0.out);replace HB:=zqm (below_drew1 HB.out);refine start_ (n:=32) (S:=fun w'=>w'.cell? ⟨a2,0,none⟩=some (.slice b1 a1.length a9)∧w'.cell? ⟨a2,1,none⟩=some (.slice b2 a3.length b0)) (ds:= []) (zqb 32 0) zqk rfl rfl ⟨(blk_cell a0.out 0).trans rfl,(blk_cell a0.out 1).trans rfl⟩ (fun hHeld=>?_);refine with_tabW laws_FnHighOf.tab14 laws_FnHighOf.bits14 (fun HT_ HW_=>?_);generalize wr.drew=y8 at HO_873000 HO_873001 a0 HB hHeld ⊢;refine pure_ (i:=0) (N:=some 58) (v:=?_) (a':=?_) (zqb 32 1) rfl rfl (any_of HT_.out zqk) (fun _ _ _ h=>h) (Or.inl ⟨by rfl,?_⟩) ?_ ?_;rotate_left
          ·exact zqt
          rotate_left
          ·exact zqs
          refine pure_ (i:=1) (N:=some 59) (v:=?_) (a':=?_) (zqb 32 3) rfl rfl (any_of HT_.out zqk) (fun _ _ _ h=>h) (Or.inl ⟨by rfl,?_⟩) ?_ ?_;rotate_left
          ·exact zqt
          rotate_left
          ·exact zqs
          refine pure_ (i:=2) (N:=some 60) (v:=?_) (a':=?_) (zqb 32 7) rfl rfl (any_of HT_.out zqk) (fun _ _ _ h=>h) (Or.inl ⟨by rfl,?_⟩) ?_ ?_;rotate_left
          ·exact zqt
          rotate_left
          ·exact zqs
          refine take_ (i:=3) (N:=some 61) (v:=?_) (a':=?_) (zqb 32 15) rfl rfl (take_ofW HT_.out HW_.out zqk) (fun _ _ _ h=>h) (Or.inl ⟨by rfl,?_⟩) hHeld ?_ ?_;rotate_left
          ·rintro w' ⟨s0,s1⟩;go_simp;with_reducible rfl
          rotate_left
          ·exact zqs
          refine one_ (i:=4) (N:=some 62) (zqb 32 31) rfl rfl (one_of HT_.out zqk) (by decide) (fun K hK=>?_);refine goes_ Try.func47 zqk rfl #[.agg #[.slice b1 a1.length a9,.slice b2 a3.length b0]] (by rfl) rfl rfl zq1 ?_;(with_reducible refine(impl_NoOf.calls _ _ a1 _ _ a3 d3 _ ?side1 ?side2 ?side3 ?side4 g7.out).mono ?_);(case side1=> exact zq53);(case side2=>exact(Kd.S_reads' HO_873000.out).2.1);(case side3=> exact zq73);(case side4=>exact(Kd.Q_reads' HO_873001.out).2.1);rintro e y9 ⟨rfl,hb⟩;refine⟨_,rfl,?_⟩;replace HO_873000:=zqm (Kd.S_below zq75 hb);replace HO_873001:=zqm (Kd.Q_below zq59 hb);replace a0:=zqm (blk_below (g:=a2) (o:= .cells #[.slice b1 a1.length a9,.slice b2 a3.length b0] 30 (0,0)) zq2 hb);replace HB:=zqm (below_step zq9 hb);clear hb;refine hK.out _ _ ⟨(blk_cell a0.out 0).trans rfl,(blk_cell a0.out 1).trans rfl⟩ (fun hHeld=>?_);clear hK K;refine norm_ (a':=?_) ?_ ?_;rotate_left
          ·show Act.put _ (some 62) _=_;exact zqs
          refine pure_ (i:=5) (N:=some 63) (v:=?_) (a':=?_) (zqb 32 63) rfl rfl (any_of HT_.out zqk) (fun _ _ _ h=>h) (Or.inl ⟨by rfl,?_⟩) ?_ ?_;rotate_left
          ·exact zqt
          rotate_left
          ·exact zqs
          refine pure_ (i:=6) (N:=some 64) (v:=?_) (a':=?_) (zqb 32 127) rfl rfl (any_of HT_.out zqk) (fun _ _ _ h=>h) (Or.inl ⟨by rfl,?_⟩) ?_ ?_;rotate_left
          ·exact zqt
          rotate_left
          ·exact zqs
          refine pure_ (i:=7) (N:=some 65) (v:=?_) (a':=?_) (zqb 32 255) rfl rfl (any_of HT_.out zqk) (fun _ _ _ h=>h) (Or.inl ⟨by rfl,?_⟩) ?_ ?_;rotate_left
          ·exact zqt
          rotate_left
          ·exact zqs
          refine pure_ (i:=8) (N:=some 66) (v:=?_) (a':=?_) (zqb 32 511) rfl rfl (any_of HT_.out zqk) (fun _ _ _ h=>h) (Or.inl ⟨by rfl,?_⟩) ?_ ?_;rotate_left
          ·exact zqt
          rotate_left
          ·exact zqs
          refine pure_ (i:=9) (N:=some 67) (v:=?_) (a':=?_) (zqb 32 1023) rfl rfl (any_of HT_.out zqk) (fun _ _ _ h=>h) (Or.inl ⟨by rfl,?_⟩) ?_ ?_;rotate_left
          ·exact zqt
          rotate_left
          ·exact zqs
          refine pure_ (i:=10) (N:=some 68) (v:=?_) (a':=?_) (zqb 32 2047) rfl rfl (any_of HT_.out zqk) (fun _ _ _ h=>h) (Or.inl ⟨by rfl,?_⟩) ?_ ?_;rotate_left
          ·exact zqt
          rotate_left
          ·exact zqs
          refine pure_ (i:=13) (N:=some 71) (v:=?_) (a':=?_) (zqb 32 10239) rfl rfl (any_of HT_.out zqk) (fun _ _ _ h=>h) (Or.inl ⟨by rfl,?_⟩) ?_ ?_;rotate_left
          ·exact zqt
          rotate_left
          ·exact zqs
          refine take_ (i:=11) (N:=some 69) (v:=?_) (a':=?_) (zqb 32 12287) rfl rfl (take_ofW HT_.out HW_.out zqk) (fun _ _ _ h=>h) (Or.inl ⟨by rfl,?_⟩) hHeld ?_ ?_;rotate_left
          ·rintro w' ⟨s0,s1⟩;go_simp;with_reducible rfl
          rotate_left
          ·exact zqs
          refine one_ (i:=12) (N:=some 70) (zqb 32 16383) rfl rfl (one_of HT_.out zqk) (by decide) (fun K hK=>?_);refine goes_ Try.func49 zqk rfl #[.slice b1 a1.length a9] (by rfl) rfl rfl zq1 ?_;(with_reducible refine(impl_AtomsOf.calls k1 _ _ a1 d7 _ ?side1 ?side2 n1.out).mono ?_);(case side1=> exact zq53);(case side2=>exact(Kd.S_reads' HO_873000.out).2.1);rintro e z0 ⟨n5,rfl,b8,hb⟩;refine⟨_,rfl,?_⟩;replace HO_873000:=zqm (Kd.S_elder' zq75 (Kd.R_base b8) hb);have g3:=zqm (Kd.Q_elder' zq59 (Kd.R_base b8) hb);have b6:=zqm (Kd.R_lower (Kd.R_new' b8 (Kd.Q_lt zq59)) (below_size zq9));replace a0:=zqm (blk_below (g:=a2) (o:= .cells #[.slice b1 a1.length a9,.slice b2 a3.length b0] 30 (0,0)) zq2 hb);replace HB:=zqm (below_step zq9 hb);clear HO_873001;have HO_873001:=g3;clear g3 hb b8;obtain⟨r7,r8,n9⟩:=Kd.R_slice b6.out;(first|subst n9|(injection n9 with g4 i2 g5;have i3:=g4.symm;have i4:=g5.symm;clear g4 i2 g5;subst i3;subst i4));refine hK.out _ _ ⟨(blk_cell a0.out 0).trans rfl,(blk_cell a0.out 1).trans rfl⟩ (fun hHeld=>?_);clear hK K;refine norm_ (a':=?_) ?_ ?_;rotate_left
          ·show Act.put _ (some 70) _=_;exact zqs
          refine one_ (i:=14) (N:=some 72) (zqb 32 32767) rfl rfl (one_of HT_.out zqk) (by decide) (fun K hK=>?_);refine goes_ Try.func48 zqk rfl #[.slice r7 d7.length r8,.int .i64 a4] (by rfl) rfl rfl zq1 ?_;(with_reducible refine(laws_hasInt.calls k1 _ _ d7 a4 c1 _ ?side1 ?side2 n3.out).mono ?_);(case side1=> exact zq296);(case side2=>exact(Kd.R_reads' b6.out).2.1);rintro e w' ⟨rfl,⟨nd,rfl⟩⟩;refine⟨_,rfl,?_⟩;refine hK.out _ _ ⟨(blk_cell a0.out 0).trans rfl,(blk_cell a0.out 1).trans rfl⟩ (fun hHeld=>?_);clear hK K;refine norm_ (a':=?_) ?_ ?_;rotate_left
          ·show Act.put _ (some 72) _=_;exact zqs
          refine pure_ (i:=15) (N:=some 73) (v:=?_) (a':=?_) (zqb 32 65535) rfl rfl (any_of HT_.out zqk) (fun _ _ _ h=>h) (Or.inl ⟨by rfl,?_⟩) ?_ ?_;rotate_left
          ·exact zqt
          rotate_left
          ·exact zqs
          refine pure_ (i:=16) (N:=some 74) (v:=?_) (a':=?_) (zqb 32 131071) rfl rfl (any_of HT_.out zqk) (fun _ _ _ h=>h) (Or.inl ⟨by rfl,?_⟩) ?_ ?_;rotate_left
          ·exact zqt
          rotate_left
          ·exact zqs
          refine pure_ (i:=17) (N:=some 75) (v:=?_) (a':=?_) (zqb 32 262143) rfl rfl (any_of HT_.out zqk) (fun _ _ _ h=>h) (Or.inl ⟨by rfl,?_⟩) ?_ ?_;rotate_left
          ·exact zqt
          rotate_left
          ·exact zqs
          refine pure_ (i:=18) (N:=some 76) (v:=?_) (a':=?_) (zqb 32 524287) rfl rfl (any_of HT_.out zqk) (fun _ _ _ h=>h) (Or.inl ⟨by rfl,?_⟩) ?_ ?_;rotate_left
          ·exact zqt
          rotate_left
          ·exact zqs
          refine take_ (i:=19) (N:=some 77) (v:=?_) (a':=?_) (zqb 32 1048575) rfl rfl (take_ofW HT_.out HW_.out zqk) (fun _ _ _ h=>h) (Or.inl ⟨by rfl,?_⟩) hHeld ?_ ?_;rotate_left
          ·rintro w' ⟨s0,s1⟩;go_simp;with_reducible rfl
          rotate_left
          ·exact zqs
          refine one_ (i:=20) (N:=some 78) (zqb 32 2097151) rfl rfl (one_of HT_.out zqk) (by decide) (fun K hK=>?_);refine goes_ Try.func34 zqk rfl #[.agg #[.slice b1 a1.length a9,.slice b2 a3.length b0]] (by rfl) rfl rfl zq1 ?_;(with_reducible refine(impl_YesOf.calls _ _ a1 _ _ a3 d2 _ ?side1 ?side2 ?side3 ?side4 q6.out).mono ?_);(case side1=> exact zq53);(case side2=>exact(Kd.S_reads' HO_873000.out).2.1);(case side3=> exact zq73);(case side4=>exact(Kd.Q_reads' HO_873001.out).2.1);rintro e z1 ⟨rfl,hb⟩;refine⟨_,rfl,?_⟩;replace HO_873000:=zqm (Kd.S_below zq75 hb);replace HO_873001:=zqm (Kd.Q_below zq59 hb);replace b6:=zqm (Kd.R_below zq165 hb);replace a0:=zqm (blk_below (g:=a2) (o:= .cells #[.slice b1 a1.length a9,.slice b2 a3.length b0] 30 (0,0)) zq2 hb);replace HB:=zqm (below_step zq9 hb);clear hb;refine hK.out _ _ ⟨(blk_cell a0.out 0).trans rfl,(blk_cell a0.out 1).trans rfl⟩ (fun hHeld=>?_);clear hK K;refine norm_ (a':=?_) ?_ ?_;rotate_left
          ·show Act.put _ (some 78) _=_;exact zqs
          refine pure_ (i:=21) (N:=some 79) (v:=?_) (a':=?_) (zqb 32 4194303) rfl rfl (any_of HT_.out zqk) (fun _ _ _ h=>h) (Or.inl ⟨by rfl,?_⟩) ?_ ?_;rotate_left
          ·exact zqt
          rotate_left
          ·exact zqs
          refine pure_ (i:=22) (N:=some 80) (v:=?_) (a':=?_) (zqb 32 8388607) rfl rfl (any_of HT_.out zqk) (fun _ _ _ h=>h) (Or.inl ⟨by rfl,?_⟩) ?_ ?_;rotate_left
          ·exact zqt
          rotate_left
          ·exact zqs
          refine pure_ (i:=23) (N:=some 81) (v:=?_) (a':=?_) (zqb 32 16777215) rfl rfl (any_of HT_.out zqk) (fun _ _ _ h=>h) (Or.inl ⟨by rfl,?_⟩) ?_ ?_;rotate_left
          ·exact zqt
          rotate_left
          ·exact zqs
          refine take_ (i:=24) (N:=some 82) (v:=?_) (a':=?_) (zqb 32 33554431) rfl rfl (take_ofW HT_.out HW_.out zqk) (fun _ _ _ h=>h) (Or.inl ⟨by rfl,?_⟩) hHeld ?_ ?_;rotate_left
          ·rintro w' ⟨s0,s1⟩;go_simp;with_reducible rfl
          rotate_left
          ·exact zqs
          refine take_ (i:=25) (N:=some 83) (v:=?_) (a':=?_) (zqb 32 67108863) rfl rfl (take_ofW HT_.out HW_.out zqk) (fun _ _ _ h=>h) (Or.inl ⟨by rfl,?_⟩) hHeld ?_ ?_;rotate_left
          ·rintro w' ⟨s0,s1⟩;go_simp;with_reducible rfl
          rotate_left
          ·exact zqs
          refine one_ (i:=26) (N:=some 84) (zqb 32 134217727) rfl rfl (one_of HT_.out zqk) (by decide) (fun K hK=>?_);refine goes_ Try.func34 zqk rfl #[.agg #[.slice b1 a1.length a9,.slice b2 a3.length b0]] (by rfl) rfl rfl zq1 ?_;(with_reducible refine(impl_YesOf.calls _ _ a1 _ _ a3 d8 _ ?side1 ?side2 ?side3 ?side4 w7.out).mono ?_);(case side1=> exact zq53);(case side2=>exact(Kd.S_reads' HO_873000.out).2.1);(case side3=> exact zq73);(case side4=>exact(Kd.Q_reads' HO_873001.out).2.1);rintro e z2 ⟨rfl,hb⟩;refine⟨_,rfl,?_⟩;replace HO_873000:=zqm (Kd.S_below zq75 hb);replace HO_873001:=zqm (Kd.Q_below zq59 hb);replace b6:=zqm (Kd.R_below zq165 hb);replace a0:=zqm (blk_below (g:=a2) (o:= .cells #[.slice b1 a1.length a9,.slice b2 a3.length b0] 30 (0,0)) zq2 hb);replace HB:=zqm (below_step zq9 hb);clear hb;refine hK.out _ _ ⟨(blk_cell a0.out 0).trans rfl,(blk_cell a0.out 1).trans rfl⟩ (fun hHeld=>?_);clear hK K;refine norm_ (a':=?_) ?_ ?_;rotate_left
          ·show Act.put _ (some 84) _=_;exact zqs
          refine one_ (i:=27) (N:=some 85) (zqb 32 268435455) rfl rfl (one_of HT_.out zqk) (by decide) (fun K hK=>?_);refine goes_ Try.func45 zqk rfl #[.agg #[.slice b1 a1.length a9,.slice b2 a3.length b0],.int .i64 d8] (by rfl) rfl rfl zq1 ?_;(with_reducible refine(impl_HighOf.calls _ _ a1 _ _ a3 d8 d9 _ ?side1 ?side2 ?side3 ?side4 w8.out).mono ?_);(case side1=> exact zq53);(case side2=>exact(Kd.S_reads' HO_873000.out).2.1);(case side3=> exact zq73);(case side4=>exact(Kd.Q_reads' HO_873001.out).2.1);rintro e z3 ⟨rfl,hb⟩;refine⟨_,rfl,?_⟩;replace HO_873000:=zqm (Kd.S_below zq75 hb);replace HO_873001:=zqm (Kd.Q_below zq59 hb);replace b6:=zqm (Kd.R_below zq165 hb);replace a0:=zqm (blk_below (g:=a2) (o:= .cells #[.slice b1 a1.length a9,.slice b2 a3.length b0] 30 (0,0)) zq2 hb);replace HB:=zqm (below_step zq9 hb);clear hb;refine hK.out _ _ ⟨(blk_cell a0.out 0).trans rfl,(blk_cell a0.out 1).trans rfl⟩ (fun hHeld=>?_);clear hK K;refine norm_ (a':=?_) ?_ ?_;rotate_left
          ·show Act.put _ (some 85) _=_;exact zqs
          refine pure_ (i:=28) (N:=some 86) (v:=?_) (a':=?_) (zqb 32 536870911) rfl rfl (any_of HT_.out zqk) (fun _ _ _ h=>h) (Or.inl ⟨by rfl,?_⟩) ?_ ?_;rotate_left
          ·exact zqt
          rotate_left
          ·exact zqs
          refine pure_ (i:=29) (N:=some 87) (v:=?_) (a':=?_) (zqb 32 1073741823) rfl rfl (any_of HT_.out zqk) (fun _ _ _ h=>h) (Or.inl ⟨by rfl,?_⟩) ?_ ?_;rotate_left
          ·exact zqt
          rotate_left
          ·exact zqs
          refine pure_ (i:=30) (N:=some 88) (v:=?_) (a':=?_) (zqb 32 2147483647) rfl rfl (any_of HT_.out zqk) (fun _ _ _ h=>h) (Or.inl ⟨by rfl,?_⟩) ?_ ?_;rotate_left
          ·exact zqt
          rotate_left
          ·exact zqs
          refine pure_ (i:=31) (N:=some 2) (v:=?_) (a':=?_) (zqb 32 4294967295) rfl rfl (any_of HT_.out zqk) (fun _ _ _ h=>h) (Or.inl ⟨by rfl,?_⟩) ?_ ?_;rotate_left
          ·exact zqt
          rotate_left
          ·exact zqs
          refine done_ (done_of HT_.out zqk) ?_;try go_wp2
          go_ret
          exact⟨zq11,zq9⟩
        ·rw [if_neg g1] at H;(have p0:((a5==1)==c1)=false:=by simpa using g1);(try(have p1:decide ((a5==1)=c1)=false:=by simpa using g1));(try(have p3:((a5==1)==c1)=false:=by simpa using g1));(try(have x3: ¬((a5==1)=c1):=by simpa using g1));clear g1;obtain rfl:=Option.some.inj H;have v0:wr.cell? ⟨a2,0,none⟩=some (.slice b1 a1.length a9):=(blk_cell a0.out 0).trans rfl;have v1:wr.cell? ⟨a2,1,none⟩=some (.slice b2 a3.length b0):=(blk_cell a0.out 1).trans rfl;have v2:=blk_frozen a0.out 0;have v3:=blk_frozen a0.out 1;(try go_wp2);replace HO_873000:=zqm (Kd.S_drew HO_873000.out);replace HO_873001:=zqm (Kd.Q_drew HO_873001.out);replace a0:=zqm (blk_drew a0.out);replace HB:=zqm (below_drew1 HB.out);refine start_ (n:=32) (S:=fun w'=>w'.cell? ⟨a2,0,none⟩=some (.slice b1 a1.length a9)∧w'.cell? ⟨a2,1,none⟩=some (.slice b2 a3.length b0)) (ds:= []) (zqb 32 0) zqk rfl rfl ⟨(blk_cell a0.out 0).trans rfl,(blk_cell a0.out 1).trans rfl⟩ (fun hHeld=>?_);refine with_tabW laws_FnHighOf.tab14 laws_FnHighOf.bits14 (fun HT_ HW_=>?_);generalize wr.drew=z4 at HO_873000 HO_873001 a0 HB hHeld ⊢;refine pure_ (i:=0) (N:=some 58) (v:=?_) (a':=?_) (zqb 32 1) rfl rfl (any_of HT_.out zqk) (fun _ _ _ h=>h) (Or.inl ⟨by rfl,?_⟩) ?_ ?_;rotate_left
         ·exact zqt
         rotate_left
         ·exact zqs
         refine pure_ (i:=1) (N:=some 59) (v:=?_) (a':=?_) (zqb 32 3) rfl rfl (any_of HT_.out zqk) (fun _ _ _ h=>h) (Or.inl ⟨by rfl,?_⟩) ?_ ?_;rotate_left
         ·exact zqt
         rotate_left
         ·exact zqs
         refine pure_ (i:=2) (N:=some 60) (v:=?_) (a':=?_) (zqb 32 7) rfl rfl (any_of HT_.out zqk) (fun _ _ _ h=>h) (Or.inl ⟨by rfl,?_⟩) ?_ ?_;rotate_left
         ·exact zqt
         rotate_left
         ·exact zqs
         refine take_ (i:=3) (N:=some 61) (v:=?_) (a':=?_) (zqb 32 15) rfl rfl (take_ofW HT_.out HW_.out zqk) (fun _ _ _ h=>h) (Or.inl ⟨by rfl,?_⟩) hHeld ?_ ?_;rotate_left
         ·rintro w' ⟨s0,s1⟩;go_simp;with_reducible rfl
         rotate_left
         ·exact zqs
         refine one_ (i:=4) (N:=some 62) (zqb 32 31) rfl rfl (one_of HT_.out zqk) (by decide) (fun K hK=>?_);refine goes_ Try.func47 zqk rfl #[.agg #[.slice b1 a1.length a9,.slice b2 a3.length b0]] (by rfl) rfl rfl zq1 ?_;(with_reducible refine(impl_NoOf.calls _ _ a1 _ _ a3 d3 _ ?side1 ?side2 ?side3 ?side4 g7.out).mono ?_);(case side1=> exact zq53);(case side2=>exact(Kd.S_reads' HO_873000.out).2.1);(case side3=> exact zq73);(case side4=>exact(Kd.Q_reads' HO_873001.out).2.1);rintro e z5 ⟨rfl,hb⟩;refine⟨_,rfl,?_⟩;replace HO_873000:=zqm (Kd.S_below zq75 hb);replace HO_873001:=zqm (Kd.Q_below zq59 hb);replace a0:=zqm (blk_below (g:=a2) (o:= .cells #[.slice b1 a1.length a9,.slice b2 a3.length b0] 30 (0,0)) zq2 hb);replace HB:=zqm (below_step zq9 hb);clear hb;refine hK.out _ _ ⟨(blk_cell a0.out 0).trans rfl,(blk_cell a0.out 1).trans rfl⟩ (fun hHeld=>?_);clear hK K;refine norm_ (a':=?_) ?_ ?_;rotate_left
         ·show Act.put _ (some 62) _=_;exact zqs
         refine pure_ (i:=5) (N:=some 63) (v:=?_) (a':=?_) (zqb 32 63) rfl rfl (any_of HT_.out zqk) (fun _ _ _ h=>h) (Or.inl ⟨by rfl,?_⟩) ?_ ?_;rotate_left
         ·exact zqt
         rotate_left
         ·exact zqs
         refine pure_ (i:=6) (N:=some 64) (v:=?_) (a':=?_) (zqb 32 127) rfl rfl (any_of HT_.out zqk) (fun _ _ _ h=>h) (Or.inl ⟨by rfl,?_⟩) ?_ ?_;rotate_left
         ·exact zqt
         rotate_left
         ·exact zqs
         refine pure_ (i:=7) (N:=some 65) (v:=?_) (a':=?_) (zqb 32 255) rfl rfl (any_of HT_.out zqk) (fun _ _ _ h=>h) (Or.inl ⟨by rfl,?_⟩) ?_ ?_;rotate_left
         ·exact zqt
         rotate_left
         ·exact zqs
         refine pure_ (i:=8) (N:=some 66) (v:=?_) (a':=?_) (zqb 32 511) rfl rfl (any_of HT_.out zqk) (fun _ _ _ h=>h) (Or.inl ⟨by rfl,?_⟩) ?_ ?_;rotate_left
         ·exact zqt
         rotate_left
         ·exact zqs
         refine pure_ (i:=9) (N:=some 67) (v:=?_) (a':=?_) (zqb 32 1023) rfl rfl (any_of HT_.out zqk) (fun _ _ _ h=>h) (Or.inl ⟨by rfl,?_⟩) ?_ ?_;rotate_left
         ·exact zqt
         rotate_left
         ·exact zqs
         refine pure_ (i:=10) (N:=some 68) (v:=?_) (a':=?_) (zqb 32 2047) rfl rfl (any_of HT_.out zqk) (fun _ _ _ h=>h) (Or.inl ⟨by rfl,?_⟩) ?_ ?_;rotate_left
         ·exact zqt
         rotate_left
         ·exact zqs
         refine pure_ (i:=13) (N:=some 71) (v:=?_) (a':=?_) (zqb 32 10239) rfl rfl (any_of HT_.out zqk) (fun _ _ _ h=>h) (Or.inl ⟨by rfl,?_⟩) ?_ ?_;rotate_left
         ·exact zqt
         rotate_left
         ·exact zqs
         refine take_ (i:=11) (N:=some 69) (v:=?_) (a':=?_) (zqb 32 12287) rfl rfl (take_ofW HT_.out HW_.out zqk) (fun _ _ _ h=>h) (Or.inl ⟨by rfl,?_⟩) hHeld ?_ ?_;rotate_left
         ·rintro w' ⟨s0,s1⟩;go_simp;with_reducible rfl
         rotate_left
         ·exact zqs
         refine one_ (i:=12) (N:=some 70) (zqb 32 16383) rfl rfl (one_of HT_.out zqk) (by decide) (fun K hK=>?_);refine goes_ Try.func49 zqk rfl #[.slice b1 a1.length a9] (by rfl) rfl rfl zq1 ?_;(with_reducible refine(impl_AtomsOf.calls k1 _ _ a1 d7 _ ?side1 ?side2 n1.out).mono ?_);(case side1=> exact zq53);(case side2=>exact(Kd.S_reads' HO_873000.out).2.1);rintro e z6 ⟨n5,rfl,b8,hb⟩;refine⟨_,rfl,?_⟩;replace HO_873000:=zqm (Kd.S_elder' zq75 (Kd.R_base b8) hb);have g3:=zqm (Kd.Q_elder' zq59 (Kd.R_base b8) hb);have b6:=zqm (Kd.R_lower (Kd.R_new' b8 (Kd.Q_lt zq59)) (below_size zq9));replace a0:=zqm (blk_below (g:=a2) (o:= .cells #[.slice b1 a1.length a9,.slice b2 a3.length b0] 30 (0,0)) zq2 hb);replace HB:=zqm (below_step zq9 hb);clear HO_873001;have HO_873001:=g3;clear g3 hb b8;obtain⟨r9,s2,o0⟩:=Kd.R_slice b6.out;(first|subst o0|(injection o0 with g4 i2 g5;have i3:=g4.symm;have i4:=g5.symm;clear g4 i2 g5;subst i3;subst i4));refine hK.out _ _ ⟨(blk_cell a0.out 0).trans rfl,(blk_cell a0.out 1).trans rfl⟩ (fun hHeld=>?_);clear hK K;refine norm_ (a':=?_) ?_ ?_;rotate_left
         ·show Act.put _ (some 70) _=_;exact zqs
         refine one_ (i:=14) (N:=some 72) (zqb 32 32767) rfl rfl (one_of HT_.out zqk) (by decide) (fun K hK=>?_);refine goes_ Try.func48 zqk rfl #[.slice r9 d7.length s2,.int .i64 a4] (by rfl) rfl rfl zq1 ?_;(with_reducible refine(laws_hasInt.calls k1 _ _ d7 a4 c1 _ ?side1 ?side2 n3.out).mono ?_);(case side1=> exact zq296);(case side2=>exact(Kd.R_reads' b6.out).2.1);rintro e w' ⟨rfl,⟨nd,rfl⟩⟩;refine⟨_,rfl,?_⟩;refine hK.out _ _ ⟨(blk_cell a0.out 0).trans rfl,(blk_cell a0.out 1).trans rfl⟩ (fun hHeld=>?_);clear hK K;refine norm_ (a':=?_) ?_ ?_;rotate_left
         ·show Act.put _ (some 72) _=_;exact zqs
         refine pure_ (i:=15) (N:=some 73) (v:=?_) (a':=?_) (zqb 32 65535) rfl rfl (any_of HT_.out zqk) (fun _ _ _ h=>h) (Or.inl ⟨by rfl,?_⟩) ?_ ?_;rotate_left
         ·exact zqt
         rotate_left
         ·exact zqs
         refine pure_ (i:=16) (N:=some 74) (v:=?_) (a':=?_) (zqb 32 131071) rfl rfl (any_of HT_.out zqk) (fun _ _ _ h=>h) (Or.inl ⟨by rfl,?_⟩) ?_ ?_;rotate_left
         ·exact zqt
         rotate_left
         ·exact zqs
         refine pure_ (i:=17) (N:=some 75) (v:=?_) (a':=?_) (zqb 32 262143) rfl rfl (any_of HT_.out zqk) (fun _ _ _ h=>h) (Or.inl ⟨by rfl,?_⟩) ?_ ?_;rotate_left
         ·exact zqt
         rotate_left
         ·exact zqs
         refine pure_ (i:=18) (N:=some 76) (v:=undef) (a':=?_) (zqb 32 524287) rfl rfl (any_of HT_.out zqk) (fun _ _ _ h=>h) (Or.inr ⟨by rfl,rfl⟩) ?_ ?_;rotate_left
         ·exact zqs
         refine pure_ (i:=19) (N:=some 77) (v:=undef) (a':=?_) (zqb 32 1048575) rfl rfl (any_of HT_.out zqk) (fun _ _ _ h=>h) (Or.inr ⟨by rfl,rfl⟩) ?_ ?_;rotate_left
         ·exact zqs
         refine pure_ (i:=20) (N:=some 78) (v:=undef) (a':=?_) (zqb 32 2097151) rfl rfl (any_of HT_.out zqk) (fun _ _ _ h=>h) (Or.inr ⟨by rfl,rfl⟩) ?_ ?_;rotate_left
         ·exact zqs
         refine pure_ (i:=21) (N:=some 79) (v:=undef) (a':=?_) (zqb 32 4194303) rfl rfl (any_of HT_.out zqk) (fun _ _ _ h=>h) (Or.inr ⟨by rfl,rfl⟩) ?_ ?_;rotate_left
         ·exact zqs
         refine pure_ (i:=22) (N:=some 80) (v:=undef) (a':=?_) (zqb 32 8388607) rfl rfl (any_of HT_.out zqk) (fun _ _ _ h=>h) (Or.inr ⟨by rfl,rfl⟩) ?_ ?_;rotate_left
         ·exact zqs
         refine pure_ (i:=23) (N:=some 81) (v:=undef) (a':=?_) (zqb 32 16777215) rfl rfl (any_of HT_.out zqk) (fun _ _ _ h=>h) (Or.inr ⟨by rfl,rfl⟩) ?_ ?_;rotate_left
         ·exact zqs
         refine pure_ (i:=24) (N:=some 82) (v:=undef) (a':=?_) (zqb 32 33554431) rfl rfl (any_of HT_.out zqk) (fun _ _ _ h=>h) (Or.inr ⟨by rfl,rfl⟩) ?_ ?_;rotate_left
         ·exact zqs
         refine pure_ (i:=25) (N:=some 83) (v:=undef) (a':=?_) (zqb 32 67108863) rfl rfl (any_of HT_.out zqk) (fun _ _ _ h=>h) (Or.inr ⟨by rfl,rfl⟩) ?_ ?_;rotate_left
         ·exact zqs
         refine pure_ (i:=26) (N:=some 84) (v:=undef) (a':=?_) (zqb 32 134217727) rfl rfl (any_of HT_.out zqk) (fun _ _ _ h=>h) (Or.inr ⟨by rfl,rfl⟩) ?_ ?_;rotate_left
         ·exact zqs
         refine pure_ (i:=27) (N:=some 85) (v:=undef) (a':=?_) (zqb 32 268435455) rfl rfl (any_of HT_.out zqk) (fun _ _ _ h=>h) (Or.inr ⟨by rfl,rfl⟩) ?_ ?_;rotate_left
         ·exact zqs
         refine pure_ (i:=28) (N:=some 86) (v:=undef) (a':=?_) (zqb 32 536870911) rfl rfl (any_of HT_.out zqk) (fun _ _ _ h=>h) (Or.inr ⟨by rfl,rfl⟩) ?_ ?_;rotate_left
         ·exact zqs
         refine pure_ (i:=29) (N:=some 87) (v:=undef) (a':=?_) (zqb 32 1073741823) rfl rfl (any_of HT_.out zqk) (fun _ _ _ h=>h) (Or.inr ⟨by rfl,rfl⟩) ?_ ?_;rotate_left
         ·exact zqs
         refine pure_ (i:=30) (N:=some 88) (v:=?_) (a':=?_) (zqb 32 2147483647) rfl rfl (any_of HT_.out zqk) (fun _ _ _ h=>h) (Or.inl ⟨by rfl,?_⟩) ?_ ?_;rotate_left
         ·exact zqt
         rotate_left
         ·exact zqs
         refine pure_ (i:=31) (N:=some 2) (v:=?_) (a':=?_) (zqb 32 4294967295) rfl rfl (any_of HT_.out zqk) (fun _ _ _ h=>h) (Or.inl ⟨by rfl,?_⟩) ?_ ?_;rotate_left
         ·exact zqt
         rotate_left
         ·exact zqs
         refine done_ (done_of HT_.out zqk) ?_;try go_wp2
         go_ret
         exact⟨zq11,zq9⟩
       ·rw [if_neg g0] at H;(have o7:((a5==0)==(a4==d3))=false:=by simpa using g0);(try(have o8:decide ((a5==0)=(a4==d3))=false:=by simpa using g0));(try(have o9:((a5==0)==(a4==d3))=false:=by simpa using g0));(try(have x4: ¬((a5==0)=(a4==d3)):=by simpa using g0));clear g0;obtain rfl:=Option.some.inj H;have v4:wr.cell? ⟨a2,0,none⟩=some (.slice b1 a1.length a9):=(blk_cell a0.out 0).trans rfl;have v5:wr.cell? ⟨a2,1,none⟩=some (.slice b2 a3.length b0):=(blk_cell a0.out 1).trans rfl;have v7:=blk_frozen a0.out 0;have v8:=blk_frozen a0.out 1;(try go_wp2);replace HO_873000:=zqm (Kd.S_drew HO_873000.out);replace HO_873001:=zqm (Kd.Q_drew HO_873001.out);replace a0:=zqm (blk_drew a0.out);replace HB:=zqm (below_drew1 HB.out);refine start_ (n:=32) (S:=fun w'=>w'.cell? ⟨a2,0,none⟩=some (.slice b1 a1.length a9)∧w'.cell? ⟨a2,1,none⟩=some (.slice b2 a3.length b0)) (ds:= []) (zqb 32 0) zqk rfl rfl ⟨(blk_cell a0.out 0).trans rfl,(blk_cell a0.out 1).trans rfl⟩ (fun hHeld=>?_);refine with_tabW laws_FnHighOf.tab14 laws_FnHighOf.bits14 (fun HT_ HW_=>?_);generalize wr.drew=z7 at HO_873000 HO_873001 a0 HB hHeld ⊢;refine pure_ (i:=0) (N:=some 58) (v:=?_) (a':=?_) (zqb 32 1) rfl rfl (any_of HT_.out zqk) (fun _ _ _ h=>h) (Or.inl ⟨by rfl,?_⟩) ?_ ?_;rotate_left
        ·exact zqt
        rotate_left
        ·exact zqs
        refine pure_ (i:=1) (N:=some 59) (v:=?_) (a':=?_) (zqb 32 3) rfl rfl (any_of HT_.out zqk) (fun _ _ _ h=>h) (Or.inl ⟨by rfl,?_⟩) ?_ ?_;rotate_left
        ·exact zqt
        rotate_left
        ·exact zqs
        refine pure_ (i:=2) (N:=some 60) (v:=?_) (a':=?_) (zqb 32 7) rfl rfl (any_of HT_.out zqk) (fun _ _ _ h=>h) (Or.inl ⟨by rfl,?_⟩) ?_ ?_;rotate_left
        ·exact zqt
        rotate_left
        ·exact zqs
        refine take_ (i:=3) (N:=some 61) (v:=?_) (a':=?_) (zqb 32 15) rfl rfl (take_ofW HT_.out HW_.out zqk) (fun _ _ _ h=>h) (Or.inl ⟨by rfl,?_⟩) hHeld ?_ ?_;rotate_left
        ·rintro w' ⟨s0,s1⟩;go_simp;with_reducible rfl
        rotate_left
        ·exact zqs
        refine one_ (i:=4) (N:=some 62) (zqb 32 31) rfl rfl (one_of HT_.out zqk) (by decide) (fun K hK=>?_);refine goes_ Try.func47 zqk rfl #[.agg #[.slice b1 a1.length a9,.slice b2 a3.length b0]] (by rfl) rfl rfl zq1 ?_;(with_reducible refine(impl_NoOf.calls _ _ a1 _ _ a3 d3 _ ?side1 ?side2 ?side3 ?side4 g7.out).mono ?_);(case side1=> exact zq53);(case side2=>exact(Kd.S_reads' HO_873000.out).2.1);(case side3=> exact zq73);(case side4=>exact(Kd.Q_reads' HO_873001.out).2.1);rintro e z8 ⟨rfl,hb⟩;refine⟨_,rfl,?_⟩;replace HO_873000:=zqm (Kd.S_below zq75 hb);replace HO_873001:=zqm (Kd.Q_below zq59 hb);replace a0:=zqm (blk_below (g:=a2) (o:= .cells #[.slice b1 a1.length a9,.slice b2 a3.length b0] 30 (0,0)) zq2 hb);replace HB:=zqm (below_step zq9 hb);clear hb;refine hK.out _ _ ⟨(blk_cell a0.out 0).trans rfl,(blk_cell a0.out 1).trans rfl⟩ (fun hHeld=>?_);clear hK K;refine norm_ (a':=?_) ?_ ?_;rotate_left
        ·show Act.put _ (some 62) _=_;exact zqs
        refine pure_ (i:=5) (N:=some 63) (v:=?_) (a':=?_) (zqb 32 63) rfl rfl (any_of HT_.out zqk) (fun _ _ _ h=>h) (Or.inl ⟨by rfl,?_⟩) ?_ ?_;rotate_left
        ·exact zqt
        rotate_left
        ·exact zqs
        refine pure_ (i:=6) (N:=some 64) (v:=?_) (a':=?_) (zqb 32 127) rfl rfl (any_of HT_.out zqk) (fun _ _ _ h=>h) (Or.inl ⟨by rfl,?_⟩) ?_ ?_;rotate_left
        ·exact zqt
        rotate_left
        ·exact zqs
        refine pure_ (i:=7) (N:=some 65) (v:=?_) (a':=?_) (zqb 32 255) rfl rfl (any_of HT_.out zqk) (fun _ _ _ h=>h) (Or.inl ⟨by rfl,?_⟩) ?_ ?_;rotate_left
        ·exact zqt
        rotate_left
        ·exact zqs
        refine pure_ (i:=8) (N:=some 66) (v:=undef) (a':=?_) (zqb 32 511) rfl rfl (any_of HT_.out zqk) (fun _ _ _ h=>h) (Or.inr ⟨by rfl,rfl⟩) ?_ ?_;rotate_left
        ·exact zqs
        refine pure_ (i:=9) (N:=some 67) (v:=undef) (a':=?_) (zqb 32 1023) rfl rfl (any_of HT_.out zqk) (fun _ _ _ h=>h) (Or.inr ⟨by rfl,rfl⟩) ?_ ?_;rotate_left
        ·exact zqs
        refine pure_ (i:=10) (N:=some 68) (v:=undef) (a':=?_) (zqb 32 2047) rfl rfl (any_of HT_.out zqk) (fun _ _ _ h=>h) (Or.inr ⟨by rfl,rfl⟩) ?_ ?_;rotate_left
        ·exact zqs
        refine pure_ (i:=11) (N:=some 69) (v:=undef) (a':=?_) (zqb 32 4095) rfl rfl (any_of HT_.out zqk) (fun _ _ _ h=>h) (Or.inr ⟨by rfl,rfl⟩) ?_ ?_;rotate_left
        ·exact zqs
        refine pure_ (i:=12) (N:=some 70) (v:=undef) (a':=?_) (zqb 32 8191) rfl rfl (any_of HT_.out zqk) (fun _ _ _ h=>h) (Or.inr ⟨by rfl,rfl⟩) ?_ ?_;rotate_left
        ·exact zqs
        refine pure_ (i:=13) (N:=some 71) (v:=undef) (a':=?_) (zqb 32 16383) rfl rfl (any_of HT_.out zqk) (fun _ _ _ h=>h) (Or.inr ⟨by rfl,rfl⟩) ?_ ?_;rotate_left
        ·exact zqs
        refine pure_ (i:=14) (N:=some 72) (v:=undef) (a':=?_) (zqb 32 32767) rfl rfl (any_of HT_.out zqk) (fun _ _ _ h=>h) (Or.inr ⟨by rfl,rfl⟩) ?_ ?_;rotate_left
        ·exact zqs
        refine pure_ (i:=15) (N:=some 73) (v:=undef) (a':=?_) (zqb 32 65535) rfl rfl (any_of HT_.out zqk) (fun _ _ _ h=>h) (Or.inr ⟨by rfl,rfl⟩) ?_ ?_;rotate_left
        ·exact zqs
        refine pure_ (i:=16) (N:=some 74) (v:=?_) (a':=?_) (zqb 32 131071) rfl rfl (any_of HT_.out zqk) (fun _ _ _ h=>h) (Or.inl ⟨by rfl,?_⟩) ?_ ?_;rotate_left
        ·exact zqt
        rotate_left
        ·exact zqs
        refine pure_ (i:=17) (N:=some 75) (v:=?_) (a':=?_) (zqb 32 262143) rfl rfl (any_of HT_.out zqk) (fun _ _ _ h=>h) (Or.inl ⟨by rfl,?_⟩) ?_ ?_;rotate_left
        ·exact zqt
        rotate_left
        ·exact zqs
        refine pure_ (i:=18) (N:=some 76) (v:=undef) (a':=?_) (zqb 32 524287) rfl rfl (any_of HT_.out zqk) (fun _ _ _ h=>h) (Or.inr ⟨by rfl,rfl⟩) ?_ ?_;rotate_left
        ·exact zqs
        refine pure_ (i:=19) (N:=some 77) (v:=undef) (a':=?_) (zqb 32 1048575) rfl rfl (any_of HT_.out zqk) (fun _ _ _ h=>h) (Or.inr ⟨by rfl,rfl⟩) ?_ ?_;rotate_left
        ·exact zqs
        refine pure_ (i:=20) (N:=some 78) (v:=undef) (a':=?_) (zqb 32 2097151) rfl rfl (any_of HT_.out zqk) (fun _ _ _ h=>h) (Or.inr ⟨by rfl,rfl⟩) ?_ ?_;rotate_left
        ·exact zqs
        refine pure_ (i:=21) (N:=some 79) (v:=undef) (a':=?_) (zqb 32 4194303) rfl rfl (any_of HT_.out zqk) (fun _ _ _ h=>h) (Or.inr ⟨by rfl,rfl⟩) ?_ ?_;rotate_left
        ·exact zqs
        refine pure_ (i:=22) (N:=some 80) (v:=undef) (a':=?_) (zqb 32 8388607) rfl rfl (any_of HT_.out zqk) (fun _ _ _ h=>h) (Or.inr ⟨by rfl,rfl⟩) ?_ ?_;rotate_left
        ·exact zqs
        refine pure_ (i:=23) (N:=some 81) (v:=undef) (a':=?_) (zqb 32 16777215) rfl rfl (any_of HT_.out zqk) (fun _ _ _ h=>h) (Or.inr ⟨by rfl,rfl⟩) ?_ ?_;rotate_left
        ·exact zqs
        refine pure_ (i:=24) (N:=some 82) (v:=undef) (a':=?_) (zqb 32 33554431) rfl rfl (any_of HT_.out zqk) (fun _ _ _ h=>h) (Or.inr ⟨by rfl,rfl⟩) ?_ ?_;rotate_left
        ·exact zqs
        refine pure_ (i:=25) (N:=some 83) (v:=undef) (a':=?_) (zqb 32 67108863) rfl rfl (any_of HT_.out zqk) (fun _ _ _ h=>h) (Or.inr ⟨by rfl,rfl⟩) ?_ ?_;rotate_left
        ·exact zqs
        refine pure_ (i:=26) (N:=some 84) (v:=undef) (a':=?_) (zqb 32 134217727) rfl rfl (any_of HT_.out zqk) (fun _ _ _ h=>h) (Or.inr ⟨by rfl,rfl⟩) ?_ ?_;rotate_left
        ·exact zqs
        refine pure_ (i:=27) (N:=some 85) (v:=undef) (a':=?_) (zqb 32 268435455) rfl rfl (any_of HT_.out zqk) (fun _ _ _ h=>h) (Or.inr ⟨by rfl,rfl⟩) ?_ ?_;rotate_left
        ·exact zqs
        refine pure_ (i:=28) (N:=some 86) (v:=undef) (a':=?_) (zqb 32 536870911) rfl rfl (any_of HT_.out zqk) (fun _ _ _ h=>h) (Or.inr ⟨by rfl,rfl⟩) ?_ ?_;rotate_left
        ·exact zqs
        refine pure_ (i:=29) (N:=some 87) (v:=undef) (a':=?_) (zqb 32 1073741823) rfl rfl (any_of HT_.out zqk) (fun _ _ _ h=>h) (Or.inr ⟨by rfl,rfl⟩) ?_ ?_;rotate_left
        ·exact zqs
        refine pure_ (i:=30) (N:=some 88) (v:=?_) (a':=?_) (zqb 32 2147483647) rfl rfl (any_of HT_.out zqk) (fun _ _ _ h=>h) (Or.inl ⟨by rfl,?_⟩) ?_ ?_;rotate_left
        ·exact zqt
        rotate_left
        ·exact zqs
        refine pure_ (i:=31) (N:=some 2) (v:=?_) (a':=?_) (zqb 32 4294967295) rfl rfl (any_of HT_.out zqk) (fun _ _ _ h=>h) (Or.inl ⟨by rfl,?_⟩) ?_ ?_;rotate_left
        ·exact zqt
        rotate_left
        ·exact zqs
        refine done_ (done_of HT_.out zqk) ?_;try go_wp2
        go_ret
        exact⟨zq11,zq9⟩
  ·rw [if_neg c6] at H;have m3:(a5==b9)=false:=beq_eq_false_iff_ne.mpr c6;have m4:(a5 !=b9)=true:=bne_iff_ne.mpr c6;obtain rfl:=Option.some.inj H
   go_enter Try.func9,Try.ntmps9
   go_wp2_with (first|((with_reducible refine gate_callee (f:=44) rfl ?_);refine goesL_ (some 12) rfl rfl Try.func44 zqk rfl #[.slice A0 l0.length c0] rfl zq1 ?_;(with_reducible refine(spec_DrawHighOf.calls k _ _ l0 a1 a3 a4 _ ?side1 ?side2 A3.out).mono ?_);(case side1=> exact zq270);(case side2=>exact i8.out);rintro e z9 ⟨i5,i6,rfl,b8,f6,hb⟩;refine⟨_,rfl,?_⟩;have a6:=zqm (Kd.S_lower b8 (below_size zq0));have a7:=zqm (Kd.Q_lower f6 (below_size zq0));replace HB:=zqm (below_step zq0 hb);clear hb b8 f6)|((with_reducible refine gate_dst (N:=3) rfl ?_);refine box_event ?hg (N:=3) ?hd (cs:= #[.slice none 0 0,.slice none 0 0]) (t:=30) ?hr ?_;(case hd=>rfl);(case hg=>rfl);(case hr=>first|(go_simp;done)|(go_simp;rfl));intro a2 hg q7 hbox hb;replace a6:=zqm (Kd.S_below zq76 hb);replace a7:=zqm (Kd.Q_below zq138 hb);have f7:=zqm (below_step zq0 hb);have a0:=zqm (hbox);have h9:=zqm ((by rw [hg];exact(below_size zq0):w.heap.size≤a2));have a8:=zqm ((by rw [hg];exact(below_size zq0):w.heap.size≤a2));clear HB;have HB:=f7;clear f7 hb hbox hg;obtain⟨f3,e8,s3⟩:=Kd.S_slice a6.out;subst s3;have v9:q7.cell? ⟨a2,0,none⟩=some (.slice none 0 0):=(blk_cell a0.out 0).trans rfl;have w0:q7.cell? ⟨a2,1,none⟩=some (.slice none 0 0):=(blk_cell a0.out 1).trans rfl;have w1:=blk_frozen a0.out 0;have w2:=blk_frozen a0.out 1;obtain⟨f4,e9,s4,_⟩:=Kd.Q_slice a7.out;subst s4)|((with_reducible refine gate_callee (f:=45) rfl ?_);refine goesL_ (some 17) rfl rfl Try.func45 zqk rfl #[.agg #[.slice f3 a1.length e8,.slice f4 a3.length e9],.int .i64 a4] rfl zq1 ?_;(with_reducible refine(impl_HighOf.calls _ _ a1 _ _ a3 a4 a5 _ ?side1 ?side2 ?side3 ?side4 A4.out).mono ?_);(case side1=>refine(Kd.S_reads' (e:=28) (base:=w.heap.size) (ok:=fun k_=>some k_≠(.slice f4 a3.length e9:Value).ownBlock) (n:=a1.length) (c:=e8) ?_).2.2;exact zq210);(case side2=>exact(Kd.S_reads' a6.out).2.1);(case side3=>refine(Kd.Q_reads' (e:=3) (base:=w.heap.size) (ok:=fun k_=>True) (n:=a3.length) (c:=e9) ?_).2.2;exact zq194);(case side4=>exact(Kd.Q_reads' a7.out).2.1);rintro e q8 ⟨rfl,hb⟩;refine⟨_,rfl,?_⟩;replace a6:=zqm (Kd.S_below zq210 hb);replace a7:=zqm (Kd.Q_below zq194 hb);replace a0:=zqm (blk_below (g:=a2) (o:= .cells #[.slice f3 a1.length e8,.slice f4 a3.length e9] 30 (0,0)) (by(with_reducible repeat(first|refine blk_drewN ?_ _|refine blk_drew ?_|refine blk_alloc ?_ _));refine blk_put (cs:= #[.slice f3 a1.length e8,.slice none 0 0]) ?_ 1 _ rfl;(with_reducible repeat(first|refine blk_drewN ?_ _|refine blk_drew ?_|refine blk_alloc ?_ _));refine blk_put (cs:= #[.slice none 0 0,.slice none 0 0]) ?_ 0 _ rfl;(with_reducible repeat(first|refine blk_drewN ?_ _|refine blk_drew ?_|refine blk_alloc ?_ _));exact a0.out) hb);replace HB:=zqm (below_step zq9 hb);clear hb;have w3:q8.cell? ⟨a2,0,none⟩=some (.slice f3 a1.length e8):=(blk_cell a0.out 0).trans rfl;have w4:q8.cell? ⟨a2,1,none⟩=some (.slice f4 a3.length e9):=(blk_cell a0.out 1).trans rfl;have w5:=blk_frozen a0.out 0;have w6:=blk_frozen a0.out 1)|((with_reducible refine gate_callee (f:=46) rfl ?_);refine goesL_ (some 21) rfl rfl Try.func46 zqk rfl #[.agg #[.slice f3 a1.length e8,.slice f4 a3.length e9],.int .i64 a4] rfl zq1 ?_;(with_reducible refine(spec_HighOf.calls k _ _ a1 _ _ a3 a4 b9 _ ?side1 ?side2 ?side3 ?side4 A5.out).mono ?_);(case side1=> exact zq119);(case side2=>exact(Kd.S_reads' a6.out).2.1);(case side3=> exact zq175);(case side4=>exact(Kd.Q_reads' a7.out).2.1);rintro e w88 ⟨rfl,hb⟩;refine⟨_,rfl,?_⟩;replace a6:=zqm (Kd.S_below zq76 hb);replace a7:=zqm (Kd.Q_below zq138 hb);replace a0:=zqm (blk_below (g:=a2) (o:= .cells #[.slice f3 a1.length e8,.slice f4 a3.length e9] 30 (0,0)) zq2 hb);replace HB:=zqm (below_step zq9 hb);clear hb))
   go_ret
   exact⟨zq11,zq9⟩
def laws_FnHighOf.Pure : Prop := ∀ (l0 : List Int), l0.length ≤ maxLen → l0.length * 1 ≤ 140737488351232 → (∀ x ∈ l0, (Lit.int .u8 x).wf = true) → ∃ k, laws_FnHighOf.f k l0 = some true
theorem laws_FnHighOf.walk (P : laws_FnHighOf.Pure) (a0 : Option Addr) (len0 cap0 : Nat) (z0 : List Int) (w : World) (w0 : (a0 = none ∧ len0 = 0 ∧ cap0 = 0 ∧ z0 = []) ∨ ∃ x, a0 = some x ∧ len0 ≤ cap0 ∧ cap0 ≤ maxLen ∧ z0.length = cap0 ∧ (∀ i, i < z0.length → w.cell? (x.add i) = some (.int .u8 (z0.getD i 0))) ∧ ∀ n ∈ z0, (Lit.int .u8 n).wf = true) (y0 : len0 * 1 ≤ 140737488351232) :
  Calls Try.prog 9 #[.slice a0 len0 cap0] w fun e w' => e = .returned (.bool true) ∧ Below w.heap.size w w' := by
 obtain ⟨l0, rfl, hr0, hm0, hw0, hc0⟩ := ReadsInt.ofRowC w0
 obtain ⟨k, h⟩ := P l0 hm0 y0 hw0
 refine (laws_FnHighOf.calls k _ _ l0 true w (Kd.C_of_reads (d := (0 : Int)) (h1 := fun _ => rfl) hr0) hc0 h).mono ?_
 rintro e w' ⟨rfl, hd⟩
 exact ⟨rfl, hd⟩
end Go.Proofs.Ytdoomkcgdcfmlaa.Print
end
section
namespace Go.Proofs.Ytdoomkcgdcfmlaa.Print
open Go.RowKit Go.Proofs.YtdoomkcgdcfmlaaW.PrintWords Go.Proofs.YtdoomkcgdcfmlaaW.PrintLast Go.Proofs.YtdoomkcgdcfmlaaW.PrintMore
open Oml
theorem spec_HighOf.ev (U : List (List Int)) (N : List Int) (a : Int) : Ev (fun k => spec_HighOf.f k U N a) (if logicB U N = true then (if [a].all (inR U.length) = true then hiI U a else (-1)) else (-1)) := by
  unfold spec_HighOf.f
  refine Ev.bind (spec_NotOf.ev U N a) ?_
  cases hl:logicB U N with
  | false => repeat (first | ((with_reducible refine Ev.ite_pos ?_ ?_); (first | assumption | (focus omega) | (focus (simp; done)))) | ((with_reducible refine Ev.ite_neg ?_ ?_); (first | assumption | (focus omega) | (focus (simp; done)))))
             exact Ev.now _
  | true =>
    have L:=logicB_iff.1 hl
    cases ha:inR U.length a with
    | false => repeat (first | ((with_reducible refine Ev.ite_pos ?_ ?_); (first | assumption | (focus omega) | (focus (simp; done)))) | ((with_reducible refine Ev.ite_neg ?_ ?_); (first | assumption | (focus omega) | (focus (simp; done)))))
               exact Ev.eq (Ev.now _) (by simp [ha])
    | true =>
      have ia:=inR_iff.1 ha
      have h0:=(L.in_not ia).1
      rw [if_pos rfl,if_pos rfl]
      repeat(first|((with_reducible refine Ev.ite_pos ?_ ?_);(first|assumption|(focus omega)|(focus (simp;done))))|((with_reducible refine Ev.ite_neg ?_ ?_);(first|assumption|(focus omega)|(focus (simp;done)))))
      refine Ev.bind (spec_high_in L.toOrder ia) ?_
      exact Ev.eq (Ev.now _) (by simp [ha])
def filN (n : Nat) (p : Nat → Bool) : List Nat := (List.range n).filter p
theorem filI_eq (n : Nat) (p : Nat → Bool) : filI n p = (filN n p).map fun (s : Nat) => (s : Int) := rfl
theorem hasInt_ev (l : List Int) (x : Int) (hl : l.length < 4611686018427387904) : Ev (fun k => laws_hasInt.f k l x) (decide (x ∈ l)) := by
  unfold laws_hasInt.f
  refine Ev.eq (Ev.all (g:=fun k i=>laws_hasInt.l0 k l x i) (n:=l.length) (fun i=>!(at1 l i==x)) (go:=false) (stop:=true) hl (fun _=>?_) (fun i hi _ R hR=>?_)) ?_
  · refine Ev.succ ?_
    simp only [laws_hasInt.l0]
    exact Ev.ite_neg (by omega) (Ev.now _)
  · refine Ev.succ ?_
    simp only [laws_hasInt.l0,rd_nat]
    refine Ev.ite_pos (by omega) (Ev.ite_pos (by omega) ?_)
    by_cases e:at1 l i=x
    · rw [show (!(at1 l i == x)) = false by simp [e]]
      exact Ev.ite_pos e (Ev.now _)
    · have e2 : (!(at1 l i == x)) = true := by simp [e]
      rw [e2] at hR ⊢
      exact Ev.ite_neg e (hR rfl)
  · have hat : ∀ i (hi : i < l.length), at1 l i = l[i] := fun i hi => by
      unfold at1;rw [List.getD_eq_getElem?_getD,List.getElem?_eq_getElem hi];rfl
    by_cases h:x ∈ l
    · obtain ⟨i, hi, e⟩ := List.getElem_of_mem h
      have h2:allN l.length (fun i=>!(at1 l i==x))=false:=allN_false.2 ⟨i,hi,by rw [hat i hi,e];simp⟩
      rw [h2,decide_eq_true h];rfl
    · have h2 : allN l.length (fun i => !(at1 l i == x)) = true := allN_iff.2 fun i hi => by
        rw [hat i hi]
        have:l[i]≠x:=fun e=>h (e ▸ List.getElem_mem hi)
        simp [this]
      rw [h2,decide_eq_false h];rfl
theorem mem_filI {n : Nat} {p : Nat → Bool} {x : Int} : x ∈ filI n p ↔ ∃ i : Nat, x = (i : Int) ∧ i < n ∧ p i = true := by
  rw [filI_eq,List.mem_map]
  constructor
  · rintro ⟨i, hi, rfl⟩
    have:=List.mem_filter.1 hi
    exact⟨i,rfl,by simpa using this.1,this.2⟩
  · rintro ⟨i, rfl, h1, h2⟩
    exact⟨i,List.mem_filter.2 ⟨by simpa using h1,h2⟩,rfl⟩
theorem filI_nat {n : Nat} {p : Nat → Bool} {i : Nat} : decide ((i : Int) ∈ filI n p) = (decide (i < n) && p i) := by
  rw [Bool.eq_iff_iff,decide_eq_true_eq,mem_filI,Bool.and_eq_true,decide_eq_true_eq]
  constructor
  · rintro ⟨j, e, h1, h2⟩
    obtain rfl:i=j:=by omega
    exact⟨h1,h2⟩
  · rintro ⟨h1, h2⟩
    exact⟨i,rfl,h1,h2⟩
end Go.Proofs.Ytdoomkcgdcfmlaa.Print
end
section
namespace Go.Proofs.Ytdoomkcgdcfmlaa.Print
open Go.RowKit Go.Proofs.YtdoomkcgdcfmlaaW.PrintWords Go.Proofs.YtdoomkcgdcfmlaaW.PrintLast Go.Proofs.YtdoomkcgdcfmlaaW.PrintMore
open Oml
theorem cN_le (p : Nat → Bool) : ∀ m, cN p m ≤ m
  | 0 => Nat.le_refl _
  | m + 1 => by have := cN_le p m; unfold cN; split <;> omega
theorem cN_zero {p : Nat → Bool} : ∀ m, cN p m = 0 ↔ ∀ c, c < m → p c = false
  |0=>⟨fun _ c h=>absurd h (Nat.not_lt_zero _),fun _=>rfl⟩
  | m + 1 => by
    unfold cN
    have ih:=cN_zero (p:=p) m
    constructor
    · intro h c hc
      cases e:p m with
      |true=>rw [e] at h;simp at h
      | false =>
        by_cases hcm:c=m
        · rw [hcm];exact e
        · exact ih.1 (by omega) c (by omega)
    · intro h
      rw [ih.2 (fun c hc=>h c (by omega)),h m (by omega)];rfl
theorem cN_split {p : Nat → Bool} {x y : Nat} (hx : p x = true) (hy : p y = true) (hne : x ≠ y) : ∀ m, cN p m = (if x < m then 1 else 0) + (if y < m then 1 else 0) + cN (fun c => p c && !(c == x) && !(c == y)) m
  |0=>rfl
  | m + 1 => by
    have ih:=cN_split hx hy hne m
    unfold cN
    rw [ih]
    by_cases e1:m=x
    · subst e1
      rw [if_pos hx,if_neg (show¬m<m by omega),if_pos (show m<m+1 by omega)]
      have:(p m && !(m==m) && !(m==y))=false:=by simp
      rw [this,if_neg (show¬(false=true) by simp)]
      by_cases h:y<m
      · rw [if_pos h,if_pos (by omega)];omega
      · rw [if_neg h,if_neg (by omega)];omega
    · by_cases e2 : m = y
      · subst e2
        rw [if_pos hy,if_neg (show¬m<m by omega),if_pos (show m<m+1 by omega)]
        have:(p m && !(m==x) && !(m==m))=false:=by simp
        rw [this,if_neg (show¬(false=true) by simp)]
        by_cases h:x<m
        · rw [if_pos h,if_pos (by omega)];omega
        · rw [if_neg h,if_neg (by omega)];omega
      · have h1 : (x < m + 1) = (x < m) := propext ⟨fun h => by omega, fun h => by omega⟩
        have h2:(y<m+1)=(y<m):=propext ⟨fun h=>by omega,fun h=>by omega⟩
        have h3:(p m && !(m==x) && !(m==y))=p m:=by rw [beq_eq_false_iff_ne.2 e1,beq_eq_false_iff_ne.2 e2,Bool.not_false,Bool.and_true,Bool.and_true]
        simp only [h1,h2,h3]
        omega
def atomB (U : List (List Int)) (a : Nat) : Bool := !((a : Int) == noI U) && cN (fun c => leB U c a) U.length == 2
section
variable {U : List (List Int)} {N : List Int} (L : Logic U N)
include L
theorem atomB_iff (x : Fin U.length) : atomB U x.1 = true ↔ x ≠ L.ol.bot ∧ ∀ y, L.ol.le y x → y = L.ol.bot ∨ y = x := by
  unfold atomB
  rw [no_fin L,Bool.and_eq_true,Bool.not_eq_true',fin_beq,decide_eq_false_iff_not,beq_iff_eq]
  constructor
  · rintro ⟨h1, h2⟩
    refine⟨h1,fun y hy=>?_⟩
    rw [cN_split (p:=fun c=>leB U c x.1) (x:=L.ol.bot.1) (y:=x.1) (L.ol.bot_le x) (L.ol.le_refl x) (fun e=>h1 (Fin.ext e.symm)),if_pos L.ol.bot.2,if_pos x.2] at h2
    have h5:cN (fun c=>leB U c x.1 && !(c==L.ol.bot.1) && !(c==x.1)) U.length=0:=by omega
    have h3:=(cN_zero _).1 h5 y.1 y.2
    have hy':leB U y.1 x.1=true:=hy
    rw [hy'] at h3
    by_cases e:y=L.ol.bot
    · exact .inl e
    · right
      apply Classical.byContradiction
      intro e2
      have e': ¬y.1=L.ol.bot.1:=fun e'=>e (Fin.ext e')
      have e2': ¬y.1=x.1:=fun e'=>e2 (Fin.ext e')
      simp [e',e2'] at h3
  · rintro ⟨h1, h2⟩
    refine⟨h1,?_⟩
    rw [cN_split (p:=fun c=>leB U c x.1) (x:=L.ol.bot.1) (y:=x.1) (L.ol.bot_le x) (L.ol.le_refl x) (fun e=>h1 (Fin.ext e.symm)),if_pos L.ol.bot.2,if_pos x.2,(cN_zero _).2 fun c hc=>?_]
    cases e:leB U c x.1 with
    |false=>simp
    | true =>
      rcases h2 ⟨c,hc⟩ e with h|h
      · have h' : c = L.ol.bot.1 := congrArg Fin.val h
        rw [h'];simp
      · have h' : c = x.1 := congrArg Fin.val h
        rw [h'];simp
theorem hi_one (x : Fin U.length) : hi U x = 1 ↔ atomB U x.1 = true := by
  rw [atomB_iff L]
  exact (hi_high L).one_iff x
theorem impl_AtomsOf.ev : Ev (fun k => impl_AtomsOf.f k U) (filI U.length (atomB U)) := by
  have hs:=L.small
  have hp:=L.pos
  unfold impl_AtomsOf.f
  refine Ev.bind (impl_LeastOf.ev U) ?_
  rw [if_pos (orderB_iff.2 L.toOrder),L.no_eq]
  have hno:noI U=(L.no.1:Int):=no_fin L
  refine Ev.ite_pos rfl ?_
  show Ev (fun k=>impl_AtomsOf.l0 k U (L.no.1:Int) [] (U.length:Int) 0) _
  refine Ev.loop (g:=fun k (s:List Int) i=>impl_AtomsOf.l0 k U (L.no.1:Int) s (U.length:Int) i) U.length (fun i s=>s=filI i (atomB U)) (by omega) (fun s h=>?_) (fun a s ha h=>?_) _ rfl
  · subst h
    refine Ev.succ ?_
    simp only [impl_AtomsOf.l0]
    exact Ev.ite_neg (by omega) (Ev.now _)
  · subst h
    refine⟨_,rfl,fun hnext=>Ev.succ ?_⟩
    have hfl:=filI_length a (atomB U)
    simp only [impl_AtomsOf.l0]
    refine Ev.ite_pos (by omega) ?_
    refine Ev.loop (g:=fun k (s:Int) c=>impl_AtomsOf.l1 k U (L.no.1:Int) (filI a (atomB U)) (a:Int) s (U.length:Int) (a:Int) (U.length:Int) c) U.length (fun c s=>s=((cN (fun c=>leB U c a) c:Nat):Int)) (by omega) (fun s h=>?_) (fun c s hc h=>?_) _ rfl
    · subst h
      refine Ev.succ ?_
      simp only [impl_AtomsOf.l1]
      refine Ev.ite_neg (by omega) ?_
      rw [filI_succ] at hnext
      by_cases e:a=L.no.1
      · have h2 : atomB U a = false := by unfold atomB; rw [hno, e]; simp
        rw [h2,if_neg (by simp)] at hnext
        exact Ev.ite_pos (by omega) hnext
      · refine Ev.ite_neg (by omega) ?_
        by_cases e2:cN (fun c=>leB U c a) U.length=2
        · have h2 : atomB U a = true := by unfold atomB; rw [hno, e2]; simp; omega
          rw [h2,if_pos rfl] at hnext
          exact Ev.ite_pos (by omega) (Ev.ite_pos (by omega) hnext)
        · have h2 : atomB U a = false := by unfold atomB; rw [Bool.and_eq_false_iff]; exact .inr (by simpa using e2)
          rw [h2,if_neg (by simp)] at hnext
          exact Ev.ite_neg (by omega) hnext
    · subst h
      have hrow:=L.row c hc
      have hcn:=cN_le (fun c=>leB U c a) c
      refine⟨_,rfl,fun hn2=>Ev.succ ?_⟩
      simp only [impl_AtomsOf.l1,rdL_nat,rd_nat,rd_row,hrow]
      refine Ev.ite_pos (by omega) (Ev.ite_pos (by omega) (Ev.ite_pos (by omega) (Ev.ite_pos (by omega) (Ev.ite_pos (by omega) ?_))))
      have hv : wrap64 (((cN (fun c => leB U c a) c : Nat) : Int) + at2 U c a) = ((cN (fun c => leB U c a) (c + 1) : Nat) : Int) := by
        rw [L.val hc ha]
        show _=((cN (fun c=>leB U c a) c+if leB U c a=true then 1 else 0:Nat):Int)
        cases leB U c a with
        |true=>rw [if_pos rfl,if_pos rfl,wrap_small (by omega) (by omega)];omega
        |false=>rw [if_neg (by simp),if_neg (by simp),wrap_small (by omega) (by omega)];omega
      rw [hv]
      exact hn2
end
end Go.Proofs.Ytdoomkcgdcfmlaa.Print
end
section
namespace Go.Proofs.Ytdoomkcgdcfmlaa.Print
open Go.RowKit Go.Proofs.YtdoomkcgdcfmlaaW.PrintWords Go.Proofs.YtdoomkcgdcfmlaaW.PrintLast Go.Proofs.YtdoomkcgdcfmlaaW.PrintMore
open Oml
theorem drawHighOf_ev {l : List Int} (h : Bytes l) : ∃ V M x, Ev (fun k => spec_DrawHighOf.f k l) (V, M, x) := by
  obtain⟨b,hb,hbl,ho⟩:=open_ev h
  obtain⟨V,M,x,y,q,hd,_,_⟩:=two_ev hb hbl (p:=0) (by omega) (by omega) 14
  exact⟨V,M,x,by unfold spec_DrawHighOf.f;exact Ev.pbind ho (Ev.bind hd (Ev.now _))⟩
theorem laws_FnHighOf.ev (l : List Int) (h : Bytes l) : Ev (fun k => laws_FnHighOf.f k l) true := by
  unfold laws_FnHighOf.f
  by_cases hl:(l.length:Int)>1048576
  · exact Ev.ite_pos hl (Ev.now _)
  refine Ev.ite_neg hl ?_
  obtain⟨V,M,a,hd⟩:=drawHighOf_ev h
  refine Ev.bind hd (Ev.pbind rfl (Ev.bind (spec_HighOf.ev V M a) ?_))
  dsimp only
  refine Ev.ite_pos rfl ?_
  cases hg:logicB V M with
  |false=>exact Ev.ite_pos (by simp) (Ev.ite_pos (by simp) (Ev.bind alive_ok (Ev.now _)))
  |true=>
  have L:=logicB_iff.1 hg
  cases hin: [a].all (inR V.length) with
  |false=>exact Ev.ite_pos (by simp) (Ev.ite_pos (by simp) (Ev.bind alive_ok (Ev.now _)))
  |true=>
  simp only [List.all_cons,List.all_nil,Bool.and_true,Bool.and_eq_true,inR_iff] at hin
  obtain⟨x,rfl⟩:=fin_of hin
  have hx:=x.2
  have hlen:=L.len
  have hsm:=L.small
  have H:=hi_high L
  have h1:=inR_one x
  have h2:=inR_one L.ol.top
  simp only [if_true,hiI_fin]
  refine Ev.ite_neg (by omega) ?_
  refine Ev.loop (g:=fun k (_:Unit) i=>laws_FnHighOf.l0 k ((x.1:Nat):Int) ((hi V x:Nat):Int) i V M) V.length (fun _ _=>True) (by omega) (fun _ _=>?_) (fun c _ hc _=>⟨(),trivial,fun hnext=>?_⟩) () trivial
  · have hfl := filI_length V.length (atomB V)
    refine Ev.succ ?_
    simp only [laws_FnHighOf.l0,impl_NoOf.f,impl_YesOf.f,impl_HighOf.f,hg,if_true,no_fin L,yes_fin L,h2,hiI_fin]
    refine Ev.ite_neg (by omega) (Ev.pbind rfl (Ev.ite_pos ?_ (Ev.bind (impl_AtomsOf.ev L) (Ev.bind (hasInt_ev _ _ (by omega)) (Ev.ite_pos ?_ (Ev.pbind rfl ?_))))))
    · rw [fin_beq, beq_iff_eq, Bool.eq_iff_iff, beq_iff_eq, decide_eq_true_eq]
      rw [← H.bot_iff x]
      omega
    · rw [filI_nat, decide_eq_true hx, Bool.true_and, beq_iff_eq, Bool.eq_iff_iff, beq_iff_eq, ← hi_one L x]
      omega
    by_cases e:x=L.ol.top
    · exact Ev.ite_pos (fin_inj.2 e) (Ev.now _)
    · refine Ev.ite_neg (fun e2 => e (fin_inj.1 e2)) (Ev.pbind rfl (Ev.pbind rfl ?_))
      have h3:=H.mono x L.ol.top (L.ol.le_top x) e
      rw [h2,if_pos rfl]
      refine Ev.pure ?_
      rw [hiI_fin,decide_eq_true (by omega)]
  · obtain ⟨y, rfl⟩ := fin_of_nat hc
    have hrow:=L.row y.1 hc
    have h3:=inR_one y
    refine Ev.succ ?_
    simp only [laws_FnHighOf.l0,rdL_nat,rd_nat,rd_row,hrow,impl_HighOf.f,hg,h3,if_true,hiI_fin]
    refine Ev.ite_pos (by omega) ?_
    by_cases e:y=x
    · exact Ev.ite_pos (fin_inj.2 e) hnext
    · refine Ev.ite_neg (fun e2 => e (fin_inj.1 e2)) (Ev.ite_pos (by omega) (Ev.ite_pos (by omega) (Ev.ite_pos (by omega) (Ev.ite_pos (by omega) ?_))))
      by_cases hle:L.ol.le y x
      · have h4 := H.mono y x hle e
        exact Ev.ite_pos ((at2_fin L y x).1.2 hle) (Ev.pbind rfl (Ev.ite_neg (by omega) hnext))
      · exact Ev.ite_neg (fun e2=>hle ((at2_fin L y x).1.1 e2)) hnext
end Go.Proofs.Ytdoomkcgdcfmlaa.Print
namespace Go.Proofs.Ytdoomkcgdcfmlaa.Pure
open Go.RowKit Go.Proofs.Ytdoomkcgdcfmlaa.Print Go.Proofs.YtdoomkcgdcfmlaaW.PrintWords Go.Proofs.YtdoomkcgdcfmlaaW.PrintLast Go.Proofs.YtdoomkcgdcfmlaaW.PrintMore
theorem FnHighOf : laws_FnHighOf.Pure := fun l _ _ hw => (laws_FnHighOf.ev l fun x hx => by
  have := hw x hx
  first | exact Go.RowKit.bounds_u8 this | exact Go.ChangeShapes.bounds_u8 this | exact bounds_u8 this | (simp [Lit.wf, IntKind.wf] at this; omega) | (simp [Lit.wf] at this; omega)).rounds
end Go.Proofs.Ytdoomkcgdcfmlaa.Pure
end
