/- Part 1 of what this is proved by: for every text of bytes the law of AddsUpOk answers true -/
import Derived.Test.YtdoomkcgdcfmlaaLB7
import Derived.Below
import Derived.Deep.Draws
import Derived.Deep.AppendLies
import Derived.Maps.AppendAt
import Derived.OwnWalk
import Derived.Laws.BytesArg
import Derived.Laws.MakeOwn
import Derived.Laws.OwnMore
import Derived.Deep.OwnRows
import Derived.Tactics
import Derived.Lib.ConvBytes
import Derived.Laws.Slices
import Derived.WalkKit
import Derived.KernelRfl
import Derived.RowKit3
import Derived.Deep.LoopGhost
import Derived.Deep.QuietTactic
import Derived.BigQuiet
import Derived.WideLaws
import Derived.Deep.DeepCutAuto
import Derived.Deep.CutBlock
import Derived.Deep.RegionHeld3
import Derived.Laws.Rows
import Derived.Lib.AppendStr
import Derived.ArgAppend
import Derived.Laws.IdiomCopy
import Derived.RowKit
import Derived.Test.YtdoomkcgdcfmlaaProg
import Derived.OrdersHeld
import Derived.Laws.BitsLemmas
import Derived.ProofKit
import Derived.OpenShut
set_option linter.all false
section
namespace Go.Proofs.YtdoomkcgdcfmlaaW.PrintWords
open Go.RowKit
theorem ReadsInt.drewN {W : World} {k : IntKind} {A : Option Addr} {n : Nat} {xs : List Int} (h : ReadsInt W k A n xs) (m : Nat) : ReadsInt (W.drewN m) k A n xs := h
theorem ReadsOf.drewN {α : Type} {enc : α → Value} {d : α} {W : World} {A : Option Addr} {n : Nat} {xs : List α} (h : ReadsOf enc d W A n xs) (m : Nat) : ReadsOf enc d (W.drewN m) A n xs := h
end Go.Proofs.YtdoomkcgdcfmlaaW.PrintWords
end
section
namespace Go.Proofs.YtdoomkcgdcfmlaaW.PrintWords
open Go.RowKit
section
variable {w W W2 : World} {S S2 S' : Nat → Prop}
theorem Kept.drewN (h : Kept w W S) (m : Nat) : Kept w (W.drewN m) S := h
end
end Go.Proofs.YtdoomkcgdcfmlaaW.PrintWords
end
section
namespace Go.Proofs.YtdoomkcgdcfmlaaW.PrintWords
open Go.RowKit
def mx (a b : Int) : Int := if a < b then b else a
end Go.Proofs.YtdoomkcgdcfmlaaW.PrintWords

end
section
namespace Go.Proofs.Ytdoomkcgdcfmlaa
variable {p : Prop}
theorem zq17 (h:p:=by repeat(first|(with_reducible first|exact HB.out|apply below_alloc|apply pw_below_drewN|apply below_drew1|refine below_set ?_ a9.out)|exact HB.out)):p:=h
theorem zq26 (h:p:=by repeat(first|exact(Kd.C_below a8.out HB.out)|(with_reducible refine Kd.C_alloc ?_ _)|(with_reducible refine Kd.C_drewN ?_ _)|(with_reducible refine Kd.C_drew ?_))):p:=h
theorem zq34 (h:p:=by (with_reducible repeat(first|apply Kd.Q_alloc|apply Kd.Q_drewN|apply Kd.Q_drew));exact a5.out):p:=h
theorem zq35 (h:p:=by (with_reducible repeat(first|apply Kd.S_alloc|apply Kd.S_drewN|apply Kd.S_drew));exact a4.out):p:=h
theorem zq43 (h:p:=by repeat(first|exact(Kd.Q_reads' a5.out).2.2|(with_reducible refine Kd.C_alloc ?_ _)|(with_reducible refine Kd.C_drewN ?_ _)|(with_reducible refine Kd.C_drew ?_))):p:=h
theorem zq44 (h:p:=by repeat(first|exact(Kd.S_reads' a4.out).2.2|(with_reducible refine Kd.C_alloc ?_ _)|(with_reducible refine Kd.C_drewN ?_ _)|(with_reducible refine Kd.C_drew ?_))):p:=h
theorem zq52 (h:p:=by (with_reducible repeat(first|refine blk_drewN ?_ _|refine blk_drew ?_|refine blk_alloc ?_ _));refine blk_put (cs:= #[.slice b7 a5.length b8,.slice none 0 0]) ?_ 1 _ rfl;(with_reducible repeat(first|refine blk_drewN ?_ _|refine blk_drew ?_|refine blk_alloc ?_ _));refine blk_put (cs:= #[.slice none 0 0,.slice none 0 0]) ?_ 0 _ rfl;(with_reducible repeat(first|refine blk_drewN ?_ _|refine blk_drew ?_|refine blk_alloc ?_ _));exact a0.out):p:=h
theorem zq61 (h:p:=by repeat(first|exact(Kd.C_below a8.out (by repeat(first|(with_reducible first|exact HB.out|apply below_alloc|apply pw_below_drewN|apply below_drew1|refine below_set ?_ a3.out)|exact HB.out)))|(with_reducible refine Kd.C_alloc ?_ _)|(with_reducible refine Kd.C_drewN ?_ _)|(with_reducible refine Kd.C_drew ?_))):p:=h
theorem zq80 (h:p:=by (with_reducible repeat(first|apply Kd.Q_alloc|apply Kd.Q_drewN|apply Kd.Q_drew));exact Kd.Q_mono (Kd.Q_far (p:=⟨a1,1,none⟩) (Kd.Q_far (p:=⟨a1,0,none⟩) (Kd.Q_types b6.out a0.out (by decide)) (fun _ hk=>hk.2) (.slice b7 a5.length b8)) (fun _ hk=>hk.2) (.slice b2 a8.length b3)) (fun _ hk=>trivial)):p:=h
theorem zq82 (h:p:=by repeat(first|(with_reducible first|exact HB.out|apply below_alloc|apply pw_below_drewN|apply below_drew1|refine below_set ?_ (IsS87.ge a2.out)|refine below_set ?_ a4.out)|exact HB.out)):p:=h
theorem zq83 (h:p:=by (with_reducible repeat(first|apply Kd.S_alloc|apply Kd.S_drewN|apply Kd.S_drew));exact Kd.S_mono (Kd.S_far (p:=⟨a1,1,none⟩) (Kd.S_far (p:=⟨a1,0,none⟩) (Kd.S_types b5.out a0.out (by decide)) (fun _ hk=>hk.2) (.slice b7 a5.length b8)) (fun _ hk=>hk.2) (.slice b2 a8.length b3)) (fun _ hk=>hk.1)):p:=h
theorem zq129 (h:p:=by repeat(first|exact(Kd.C_below d2.out HB.out)|(with_reducible refine Kd.C_alloc ?_ _)|(with_reducible refine Kd.C_drewN ?_ _)|(with_reducible refine Kd.C_drew ?_))):p:=h
theorem zq133 (h:p:=by (with_reducible repeat(first|apply Kd.R_alloc|apply Kd.R_drewN|apply Kd.R_drew));exact HO_4.out):p:=h
theorem zq214 (h:p:=by (with_reducible repeat(first|apply Kd.S_alloc|apply Kd.S_drewN|apply Kd.S_drew));exact(Kd.S_mono (Kd.S_far (p:=⟨a1,1,none⟩) (Kd.S_far (p:=⟨a1,0,none⟩) (Kd.S_types a4.out a0.out (by decide)) (fun _ hk=>hk.2) (.slice c7 a2.length c3)) (fun _ hk=>hk.2) (.slice c1 a3.length b9)) (fun _ h_=>h_.1))):p:=h
theorem zq221 (h:p:=by (with_reducible repeat(first|apply Kd.Q_alloc|apply Kd.Q_drewN|apply Kd.Q_drew));exact(Kd.Q_mono (Kd.Q_far (p:=⟨a1,1,none⟩) (Kd.Q_far (p:=⟨a1,0,none⟩) (Kd.Q_types a5.out a0.out (by decide)) (fun _ hk=>hk.2) (.slice b2 a2.length b0)) (fun _ hk=>hk.2) (.slice b3 a3.length b1)) (fun _ h_=>h_.1))):p:=h
theorem zq222 (h:p:=by (with_reducible repeat(first|apply Kd.S_alloc|apply Kd.S_drewN|apply Kd.S_drew));exact(Kd.S_mono (Kd.S_far (p:=⟨a1,1,none⟩) (Kd.S_far (p:=⟨a1,0,none⟩) (Kd.S_types a4.out a0.out (by decide)) (fun _ hk=>hk.2) (.slice b6 a2.length b4)) (fun _ hk=>hk.2) (.slice b7 a3.length b5)) (fun _ h_=>h_.1))):p:=h
theorem zq227 (h:p:=by (with_reducible repeat(first|apply Kd.S_alloc|apply Kd.S_drewN|apply Kd.S_drew));exact(Kd.S_mono (Kd.S_far (p:=⟨a1,1,none⟩) (Kd.S_far (p:=⟨a1,0,none⟩) (Kd.S_types a4.out a0.out (by decide)) (fun _ hk=>hk.2) (.slice b2 a2.length b0)) (fun _ hk=>hk.2) (.slice b3 a3.length b1)) (fun _ h_=>h_.1))):p:=h
theorem zq234 (h:p:=by (with_reducible repeat(first|apply Kd.Q_alloc|apply Kd.Q_drewN|apply Kd.Q_drew));exact(Kd.Q_mono (Kd.Q_far (p:=⟨a1,1,none⟩) (Kd.Q_far (p:=⟨a1,0,none⟩) (Kd.Q_types a5.out a0.out (by decide)) (fun _ hk=>hk.2) (.slice c7 a2.length c3)) (fun _ hk=>hk.2) (.slice c1 a3.length b9)) (fun _ h_=>h_.1))):p:=h
theorem zq245 (h:p:=by (with_reducible repeat(first|apply Kd.Q_alloc|apply Kd.Q_drewN|apply Kd.Q_drew));exact(Kd.Q_mono (Kd.Q_far (p:=⟨a1,1,none⟩) (Kd.Q_far (p:=⟨a1,0,none⟩) (Kd.Q_types a5.out a0.out (by decide)) (fun _ hk=>hk.2) (.slice b6 a2.length b4)) (fun _ hk=>hk.2) (.slice b7 a3.length b5)) (fun _ h_=>h_.1))):p:=h
theorem zq268 (h:p:=by repeat(first|exact HB.out|apply below_alloc|apply pw_below_drewN|apply below_drew1)):p:=h
theorem zq284 (h:p:=by repeat(first|exact HB3.out|apply pw_below_drewN|apply below_drew1)):p:=h
theorem zq289 (h:p:=by exact(below_size (by repeat(first|(with_reducible first|exact HB.out|apply below_alloc|apply pw_below_drewN|apply below_drew1|refine below_set ?_ a3.out)|exact HB.out)))):p:=h
theorem zq300 (h:p:=by exact(by repeat(first|(with_reducible first|exact HB.out|apply below_alloc|apply pw_below_drewN|apply below_drew1|refine below_set ?_ a3.out)|exact HB.out))):p:=h
theorem zq303 (h:p:=by repeat(first|exact HB2.out|apply pw_below_drewN|apply below_drew1)):p:=h
theorem zq308 (h:p:=by first|go_num|(rw [wrap_small (by omega) (by have:=HLT.out;have:=HSM.out;omega)];go_num)):p:=h
theorem zq310 (h:p:=by repeat(first|exact d2.out|(with_reducible refine Kd.C_alloc ?_ _)|(with_reducible refine Kd.C_drewN ?_ _)|(with_reducible refine Kd.C_drew ?_))):p:=h
theorem zq324 (h:p:=by (try simp only [List.map_toArray,List.map_cons,List.map_nil]);first|done|rfl):p:=h
theorem zq327 (h:p:=by repeat (first | exact HB1.out | apply below_alloc | apply pw_below_drewN | apply below_drew1)):p:=h
theorem zq340 (h:p:=by (try simp only [List.map_toArray, List.map_cons, List.map_nil]); first | done | rfl):p:=h
theorem zq344 (h:p:=by repeat(first|(with_reducible first|exact a2.out|apply IsS87.alloc|apply IsS87.drewN|apply IsS87.drew|apply IsS87.set_1|refine IsS87.far ?_ a6.out _)|exact a2.out)):p:=h
theorem zq351 (h:p:=by exact(by(with_reducible repeat(first|apply Kd.R_alloc|apply Kd.R_drewN|apply Kd.R_drew));exact HO_4.out)):p:=h
theorem zq365 (h:p:=by repeat (first | exact HB3.out | apply below_alloc | apply pw_below_drewN | apply below_drew1)):p:=h
theorem zq381 (h:p:=by exact HV.out.below (by repeat(first|exact HB.out|apply below_alloc|apply pw_below_drewN|apply below_drew1))):p:=h
theorem zq386 (h:p:=by (with_reducible repeat (first | apply Kd.R_alloc | apply Kd.R_drewN | apply Kd.R_drew)); exact HO1.out):p:=h
theorem zq397 (h:p:=by repeat(first|exact Below.refl _ _|apply below_alloc|apply pw_below_drewN|apply below_drew1)):p:=h
theorem zq403 (h:p:=by have:=e6.out;have:=g9.out;have:=h1.out;omega):p:=h
theorem zq405 (h:p:=by first | (rw [← HSI.out]; exact HJj.out) | (rw [← HSI.out]; exact HD.out _ _ _ HJj.out)):p:=h
theorem zq408 (h:p:=by repeat(first|exact HB1.out|apply below_alloc|apply pw_below_drewN|apply below_drew1)):p:=h
theorem zq426 (h:p:=by repeat(first|exact HB8.out|apply pw_below_drewN|apply below_drew1)):p:=h
theorem zq428 (h:p:=by repeat(first|exact HB4.out|apply pw_below_drewN|apply below_drew1)):p:=h
end Go.Proofs.Ytdoomkcgdcfmlaa
end
section
namespace Go.Proofs.Ytdoomkcgdcfmlaa.Print
open Go.RowKit Go.Proofs.YtdoomkcgdcfmlaaW.PrintWords Go.Proofs.YtdoomkcgdcfmlaaW.PrintLast Go.Proofs.YtdoomkcgdcfmlaaW.PrintMore
def spec_DrawAddsUpOk.f (k : Nat) (l0 : List Int) : Option ((List (List Int)) × List Int) := (spec_l20Open.f l0).bind fun bt747 => ((spec_l20Logic.f k bt747.1 bt747.2 9).bind fun bt750 => (some (bt750.1, bt750.2.1)))
set_option maxHeartbeats 8000000 in
set_option maxRecDepth 100000 in
theorem spec_DrawAddsUpOk.calls (k : Nat) (A0 : Option Addr) (c0 : Nat) (l0 : List Int) (r1 : List (List Int)) (r2 : List Int) (w : World) (hr0 : Kd.C (Kd.int .u8) w A0 l0.length l0) (hc0 : l0.length ≤ c0) (h : spec_DrawAddsUpOk.f k l0 = some (r1, r2)) :
  Calls Try.prog 35 #[.slice A0 l0.length c0] w fun e w' => ∃ v0_ v1_ : Value, e = .returned (.agg #[v0_, v1_]) ∧ Kd.S (Kd.slice 3 (Kd.int .i64)) 28 w' w.heap.size (fun k_ => some k_ ≠ (v1_ : Value).ownBlock) v0_ r1 ∧ Kd.Q (Kd.int .i64) 3 w' w.heap.size (fun _ => True) v1_ r2 ∧ Below w.heap.size w w' := by
 have hu30:=Try.underlying30;have c6:=zqm hr0;have c7:=zqm hc0;clear hr0 hc0;have HB:=zqm (Below.refl w.heap.size w);have H:((spec_l20Open.f l0).bind fun b4=>((spec_l20Logic.f k b4.1 b4.2 9).bind fun a3=>(some (a3.1,a3.2.1))))=some (r1,r2):=h;clear h;replace H:=Option.bind_eq_some_iff.mp H;obtain⟨⟨b0,b1⟩,b9,H⟩:=H;replace H:((spec_l20Logic.f k b0 b1 9).bind fun a3=>(some (a3.1,a3.2.1)))=some (r1,r2):=H;have A2:=zqm b9;clear b9;replace H:=Option.bind_eq_some_iff.mp H;obtain⟨⟨a5,a8,c4⟩,c1,H⟩:=H;replace H:(some (a5,a8))=some (r1,r2):=H;have A3:=zqm c1;clear c1;simp only [Option.some.injEq,Prod.mk.injEq] at H;obtain⟨rfl,rfl⟩:=H
 go_enter Try.func35,Try.ntmps35
 go_wp2_with (first|((with_reducible refine gate_dst (N:=2) rfl ?_);refine box_event ?hg (N:=2) ?hd (cs:= #[.slice none 0 0,.slice none 0 0]) (t:=30) ?hr ?_;(case hd=>rfl);(case hg=>rfl);(case hr=>first|(go_simp;done)|(go_simp;rfl));intro a1 hg w4 hbox hb;have a9:=zqm (below_step zq0 hb);have a0:=zqm (hbox);have d3:=zqm ((by rw [hg];exact(below_size zq0):w.heap.size≤a1));have a4:=zqm ((by rw [hg];exact(below_size zq0):w.heap.size≤a1));clear HB;have HB:=a9;clear a9 hb hbox hg)|((with_reducible refine gate_callee (f:=72) rfl ?_);refine goesL_ (some 4) rfl rfl Try.func72 zqk rfl #[.slice A0 l0.length c0] rfl zq1 ?_;(with_reducible refine(spec_l20Open.calls _ _ l0 b0 b1 w _ ?side1 ?side2 ?side3 A2.out).mono ?_);(case side1=> exact zq8);(case side2=>exact c6.out);(case side3=>exact c7.out);rintro e w5 ⟨g749,rfl,hi,hb,hb2⟩;refine⟨_,rfl,?_⟩;have a9:=zqm (blk_below (g:=a1) (o:= .cells #[.slice none 0 0,.slice none 0 0] 30 (0,0)) zq2 hb2);replace HB:=zqm (hb);have a2:=zqm (hi);have a6:=zqm (IsS87.ne_blk hi (blk_below (g:=a1) (o:= .cells #[.slice none 0 0,.slice none 0 0] 30 (0,0)) zq2 hb2) (by decide));have a7:=zqm (Ne.symm (IsS87.ne_blk hi (blk_below (g:=a1) (o:= .cells #[.slice none 0 0,.slice none 0 0] 30 (0,0)) zq2 hb2) (by decide)));clear a0;have a0:=a9;clear a9 hb hb2 hi)|((with_reducible refine gate_callee (f:=85) rfl ?_);refine goesL_ (some 5) rfl rfl Try.func85 zqk rfl #[.pointer (some ⟨g749,0,none⟩),.int .i64 9] rfl zq1 ?_;(with_reducible refine(spec_l20Logic.calls k g749 b0 b1 9 a5 a8 c4 w _ ?side1 ?side2 A3.out).mono ?_);(case side1=> exact zq344);(case side2=> exact zq82);rintro e w6 ⟨d4,d5,rfl,c2,c3,hi,hb,hk⟩;refine⟨_,rfl,?_⟩;replace a0:=zqm (KeepBut.blk hk (g':=a1) (o:= .cells #[.slice none 0 0,.slice none 0 0] 30 (0,0)) zq2 a7.out (by simp));have b5:=zqm (Kd.S_lower c2 (below_size zq82));have b6:=zqm (Kd.Q_lower c3 (below_size zq82));replace HB:=zqm (hb);replace a2:=zqm (hi);clear hb hk hi c2 c3;obtain⟨b7,b8,c8⟩:=Kd.S_slice b5.out;subst c8;have d6:=a7.out;have d7:=a6.out;have c9:w6.cell? ⟨a1,0,none⟩=some (.slice none 0 0):=(blk_cell a0.out 0).trans rfl;have d0:w6.cell? ⟨a1,1,none⟩=some (.slice none 0 0):=(blk_cell a0.out 1).trans rfl;have d1:=blk_frozen a0.out 0;have d2:=blk_frozen a0.out 1;obtain⟨b2,b3,c5,_⟩:=Kd.Q_slice b6.out;subst c5))
 refine bodyPost_ret (results_cell_row rfl _ _ a1 30 #[.slice b7 a5.length b8,.slice b2 a8.length b3] (0,0) _ rfl zq52 Try.underlying30 rfl zqk) rfl ?_;exact⟨_,_,zq11,zq83,zq80,zq82⟩
end Go.Proofs.Ytdoomkcgdcfmlaa.Print
end
section
namespace Go.Proofs.Ytdoomkcgdcfmlaa.Print
open Go.RowKit Go.Proofs.YtdoomkcgdcfmlaaW.PrintWords Go.Proofs.YtdoomkcgdcfmlaaW.PrintLast Go.Proofs.YtdoomkcgdcfmlaaW.PrintMore
mutual
def spec_l8High.l0 : Nat → List (List Int) → Int → Int → Int → Option (Int)
 | 0, _, _, _, _ => none
 | k + 1, x0, x1, x5, x6 => if x6 < (x0.length : Int) then (if x6 = x1 then (spec_l8High.l0 k x0 x1 x5 (wrap64 (x6 + 1))) else (if 0 ≤ x6 then (if 0 ≤ x1 then (if x1 < ((rd_L3 x0 x6).length : Int) then (if (rd (rd_L3 x0 x6) x1) = 1 then ((spec_l8High.f k x0 x6).bind fun t764 => (spec_l8High.l0 k x0 x1 (mx x5 (wrap64 (t764 + 1))) (wrap64 (x6 + 1)))) else (spec_l8High.l0 k x0 x1 x5 (wrap64 (x6 + 1)))) else (none)) else (none)) else (none))) else (some x5)
def spec_l8High.f : Nat → List (List Int) → Int → Option (Int)
 | 0, _, _ => none
 | k + 1, l0, a1 => spec_l8High.l0 k l0 a1 0 0
end
set_option maxHeartbeats 8000000 in
set_option maxRecDepth 100000 in
theorem spec_l8High.calls (k : Nat) : ∀ (A0 : Option Addr) (c0 : Nat) (l0 : List (List Int)) (a1 : Int) (r : Int) (w : World) (hr0 : Kd.C (Kd.slice 3 (Kd.int .i64)) w A0 l0.length l0) (hc0 : l0.length ≤ c0) (h : spec_l8High.f k l0 a1 = some r),
  Calls Try.prog 89 #[.slice A0 l0.length c0, .int .i64 a1] w fun e w' => e = .returned (.int .i64 r) ∧ Below w.heap.size w w' := by
 induction k using Nat.strongRecOn with
 |_ k ih=>
 intro A0 c0 l0 a1 r w hr0 hc0 h
 cases k with
 |zero=>exact absurd h (by simp [spec_l8High.f])
 |succ k=>
 simp only [spec_l8High.f] at h;have c1:=zqm hr0;have d7:=zqm hc0;clear hr0 hc0;have HB:=zqm (Below.refl w.heap.size w);have H:(spec_l8High.l0 k l0 a1 0 0)=some r:=h;clear h;have H':=zqm H;clear H
 go_enter Try.func89,Try.ntmps89
 go_wp2
 go_loopg [5,6] k (fun kq v5 v6 w'=> ∃(a6:Int) (a0:Int),v5= .int .i64 a6∧v6= .int .i64 a0∧Aside0 (spec_l8High.l0 kq l0 a1 a6 a0=some r)∧Aside0 (kq≤k)∧Aside0 (Below w.heap.size w w'))
 case atStart=>exact⟨(0),(0),(by first|rfl|(simp;done)|(simp [*];done)),(by first|rfl|(simp;done)|(simp [*];done)),H',⟨Nat.le_refl _⟩,⟨zq0⟩⟩
 case round=>
  clear H';(try clear p2);obtain⟨a6,a0,rfl,rfl,HA,b3,HB⟩:=hrel
  cases gk with
  |zero=>exact absurd HA.out (by simp [spec_l8High.l0])
  |succ k1=>
   have H:=HA.out;clear HA;simp only [spec_l8High.l0] at H
   by_cases c3:a0<(l0.length:Int)
   ·rw [if_pos c3] at H;have d2:decide (a0<(l0.length:Int))=true:=decide_eq_true c3;clear c3
    by_cases c4:a0=a1
    ·rw [if_pos c4] at H;have d3:(a0==a1)=true:=beq_iff_eq.mpr c4;have d4:(a0 !=a1)=false:=bne_eq_false_iff_eq.mpr c4;clear c4;have H':=zqm H;clear H
     go_wp2
     go_roundg k1
     (case measure=>have:=b3.out;omega);case rel=>exact⟨(a6),(wrap64 (a0+1)),(by first|rfl|(simp;done)|(simp [*];done)),(by first|rfl|(simp;done)|(simp [*];done)),H',⟨by have:=b3.out;omega⟩,⟨zq0⟩⟩
    ·rw [if_neg c4] at H;have d3:(a0==a1)=false:=beq_eq_false_iff_ne.mpr c4;have d4:(a0 !=a1)=true:=bne_iff_ne.mpr c4
     by_cases c5:0≤a0
     ·rw [if_pos c5] at H;have d9:decide (0≤a0)=true:=decide_eq_true c5;clear c5
      by_cases c6:0≤a1
      ·rw [if_pos c6] at H;have e0:decide (0≤a1)=true:=decide_eq_true c6;clear c6
       by_cases c7:a1<((rd_L3 l0 a0).length:Int)
       ·rw [if_pos c7] at H;have e1:decide (a1<((rd_L3 l0 a0).length:Int))=true:=decide_eq_true c7;clear c7
        by_cases c8:(rd (rd_L3 l0 a0) a1)=1
        ·rw [if_pos c8] at H;have d5:((rd (rd_L3 l0 a0) a1)==1)=true:=beq_iff_eq.mpr c8;have d6:((rd (rd_L3 l0 a0) a1) !=1)=false:=bne_eq_false_iff_eq.mpr c8;clear c8;replace H:=Option.bind_eq_some_iff.mp H;obtain⟨b4,d1,H⟩:=H;replace H:(spec_l8High.l0 k1 l0 a1 (mx a6 (wrap64 (b4+1))) (wrap64 (a0+1)))=some r:=H;have A9:=zqm d1;clear d1;obtain⟨b5,b1⟩: ∃j_:Int,(mx a6 (wrap64 (b4+1)))=j_:=⟨_,rfl⟩;(replace H:(spec_l8High.l0 k1 l0 a1 b5 (wrap64 (a0+1)))=some r:=by first|(rw [b1] at H;exact H)|(simp only [b1] at H ⊢;exact H));(try rw [b1] at A9);have d8:(if a6<(wrap64 (b4+1)) then(wrap64 (b4+1)) else a6)=b5:=b1;have H':=zqm H;clear H;have a7:0≤(a0:Int):=zqo;have a8:a0<(l0.length:Int):=zqo;obtain⟨b8,c2,c9,b6,a2,a4,a5⟩:=at_L3 c1.out a0 a7 a8
         cases b6
         replace a2:=(HB.out.cell (World.block_lt_of_cell? w _ a2)).trans a2;have b2:=zqm a5;have b9:=zqm a4;clear a5 a4;replace a7:=eq_true a7;replace a8:=eq_true a8;have a9:0≤(a1:Int):=zqo;have b0:a1<((rd_L3 l0 a0).length:Int):=zqo;obtain⟨d0,b7,a3⟩:=Kd.at_int b2.out a1 a9 b0
         cases b7
         replace a3:=(HB.out.cell (World.block_lt_of_cell? w _ a3)).trans a3;replace a9:=eq_true a9;replace b0:=eq_true b0
         go_wp2_with (first|((with_reducible refine gate_callee (f:=89) rfl ?_);refine goesL_ (some 29) rfl rfl Try.func89 zqk rfl #[.slice (some b8) l0.length c0,.int .i64 a0] rfl zq1 ?_;(with_reducible refine(ih k1 (by have:=b3.out;omega) _ _ l0 a0 b4 _ ?side1 ?side2 A9.out).mono ?_);(case side1=>repeat(first|exact(Kd.C_below c1.out HB.out)|(with_reducible refine Kd.C_alloc ?_ _)|(with_reducible refine Kd.C_drewN ?_ _)|(with_reducible refine Kd.C_drew ?_)));(case side2=>exact d7.out);rintro e e2 ⟨rfl,hb⟩;refine⟨_,rfl,?_⟩;replace HB:=zqm (below_step zq0 hb);clear hb))
         go_roundg k1
         (case measure=>have:=b3.out;omega);case rel=>exact⟨(b5),(wrap64 (a0+1)),(by first|rfl|(simp;done)|(simp only [← b1] <;> (first|rfl|simp))|(simp [*];done)),(by first|rfl|(simp;done)|(simp [*];done)),H',⟨by have:=b3.out;omega⟩,⟨zq0⟩⟩
        ·rw [if_neg c8] at H;have d5:((rd (rd_L3 l0 a0) a1)==1)=false:=beq_eq_false_iff_ne.mpr c8;have d6:((rd (rd_L3 l0 a0) a1) !=1)=true:=bne_iff_ne.mpr c8;have H':=zqm H;clear H;have a7:0≤(a0:Int):=zqo;have a8:a0<(l0.length:Int):=zqo;obtain⟨b8,c2,c9,b6,a2,a4,a5⟩:=at_L3 c1.out a0 a7 a8
         cases b6
         replace a2:=(HB.out.cell (World.block_lt_of_cell? w _ a2)).trans a2;have b2:=zqm a5;have b9:=zqm a4;clear a5 a4;replace a7:=eq_true a7;replace a8:=eq_true a8;have a9:0≤(a1:Int):=zqo;have b0:a1<((rd_L3 l0 a0).length:Int):=zqo;obtain⟨d0,b7,a3⟩:=Kd.at_int b2.out a1 a9 b0
         cases b7
         replace a3:=(HB.out.cell (World.block_lt_of_cell? w _ a3)).trans a3;replace a9:=eq_true a9;replace b0:=eq_true b0
         go_wp2
         go_roundg k1
         (case measure=>have:=b3.out;omega);case rel=>exact⟨(a6),(wrap64 (a0+1)),(by first|rfl|(simp;done)|(simp [*];done)),(by first|rfl|(simp;done)|(simp [*];done)),H',⟨by have:=b3.out;omega⟩,⟨zq0⟩⟩
       ·rw [if_neg c7] at H;exact absurd H (by simp)
      ·rw [if_neg c6] at H;exact absurd H (by simp)
     ·rw [if_neg c5] at H;exact absurd H (by simp)
   ·rw [if_neg c3] at H;have d2:decide (a0<(l0.length:Int))=false:=decide_eq_false c3;clear c3;obtain rfl:=Option.some.inj H
    go_wp2
    go_ret
    exact⟨zq11,zq0⟩
end Go.Proofs.Ytdoomkcgdcfmlaa.Print
end
section
namespace Go.Proofs.Ytdoomkcgdcfmlaa.Print
open Go.RowKit Go.Proofs.YtdoomkcgdcfmlaaW.PrintWords Go.Proofs.YtdoomkcgdcfmlaaW.PrintLast Go.Proofs.YtdoomkcgdcfmlaaW.PrintMore
mutual
def spec_AddsUpOk.l0 : Nat → Int → List Int → Int → List (List Int) → List Int → Option (Bool)
 | 0, _, _, _, _, _ => none
 | k + 1, x3, x4, x5, x766000, x766001 => if x5 < x3 then ((spec_l8High.f k x766000 x5).bind fun t770 => (if x4.length < 17592186044416 then (spec_AddsUpOk.l0 k x3 (x4 ++ [t770]) (wrap64 (x5 + 1)) x766000 x766001) else (none))) else (spec_AddsUpOk.l1 k x3 x4 0 x766000 x766001)
def spec_AddsUpOk.l1 : Nat → Int → List Int → Int → List (List Int) → List Int → Option (Bool)
 | 0, _, _, _, _, _ => none
 | k + 1, x3, x4, x6, x766000, x766001 => if x6 < x3 then (spec_AddsUpOk.l2 k x3 x4 x6 0 x766000 x766001) else (some true)
def spec_AddsUpOk.l2 : Nat → Int → List Int → Int → Int → List (List Int) → List Int → Option (Bool)
 | 0, _, _, _, _, _, _ => none
 | k + 1, x3, x4, x6, x7, x766000, x766001 => if x7 < x6 then (if 0 ≤ x6 then (if x6 < (x4.length : Int) then (if 0 ≤ x7 then (if x7 < (x4.length : Int) then ((spec_l1Meet.f k x766000 x6 x7).bind fun t776 => (if 0 ≤ t776 then (if t776 < (x4.length : Int) then ((spec_l1Join.f k x766000 x6 x7).bind fun t778 => (if 0 ≤ t778 then (if t778 < (x4.length : Int) then (if (wrap64 ((rd x4 x6) + (rd x4 x7))) = (wrap64 ((rd x4 t776) + (rd x4 t778))) then (spec_AddsUpOk.l2 k x3 x4 x6 (wrap64 (x7 + 1)) x766000 x766001) else (some false)) else (none)) else (none))) else (none)) else (none))) else (none)) else (none)) else (none)) else (none)) else (spec_AddsUpOk.l1 k x3 x4 (wrap64 (x6 + 1)) x766000 x766001)
end
def spec_AddsUpOk.f (k : Nat) (l0_0 : List (List Int)) (l0_1 : List Int) : Option (Bool) := (spec_LogicOk.f k l0_0 l0_1).bind fun t766 => (if t766 = true then (spec_AddsUpOk.l0 k (l0_1.length : Int) (([] : List Int)) 0 l0_0 l0_1) else (some false))
set_option maxHeartbeats 8000000 in
set_option maxRecDepth 100000 in
theorem spec_AddsUpOk.calls (k : Nat) (A0_0 : Option Addr) (c0_0 : Nat) (l0_0 : List (List Int)) (A0_1 : Option Addr) (c0_1 : Nat) (l0_1 : List Int) (r : Bool) (w : World) (hr0_0 : Kd.C (Kd.slice 3 (Kd.int .i64)) w A0_0 l0_0.length l0_0) (hc0_0 : l0_0.length ≤ c0_0) (hr0_1 : Kd.C (Kd.int .i64) w A0_1 l0_1.length l0_1) (hc0_1 : l0_1.length ≤ c0_1) (h : spec_AddsUpOk.f k l0_0 l0_1 = some r) :
  Calls Try.prog 37 #[.agg #[.slice A0_0 l0_0.length c0_0, .slice A0_1 l0_1.length c0_1]] w fun e w' => e = .returned (.bool r) ∧ Below w.heap.size w w' := by
 have hu30:=Try.underlying30;have a8:=zqm hr0_0;have a9:=zqm hc0_0;clear hr0_0 hc0_0;have d2:=zqm hr0_1;have d3:=zqm hc0_1;clear hr0_1 hc0_1;have HB:=zqm (Below.refl w.heap.size w);have H:((spec_LogicOk.f k l0_0 l0_1).bind fun f9=>(if f9=true then(spec_AddsUpOk.l0 k (l0_1.length:Int) (([]:List Int)) 0 l0_0 l0_1) else(some false)))=some r:=h;clear h;replace H:=Option.bind_eq_some_iff.mp H;obtain⟨f9,j1,H⟩:=H;replace H:(if f9=true then(spec_AddsUpOk.l0 k (l0_1.length:Int) (([]:List Int)) 0 l0_0 l0_1) else(some false))=some r:=H;have A2:=zqm j1;clear j1
 by_cases c3:f9=true
 ·subst c3;(have H1:(spec_AddsUpOk.l0 k (l0_1.length:Int) (([]:List Int)) 0 l0_0 l0_1)=some r:=by rw [if_pos rfl] at H;exact H);clear H;have H:=H1;clear H1;obtain⟨i2,d9⟩: ∃y_:List Int,y_=(([]:List Int)):=⟨_,rfl⟩;(replace H:(spec_AddsUpOk.l0 k (l0_1.length:Int) i2 0 l0_0 l0_1)=some r:=by first|(rw [d9];with_reducible exact H)|(have e3:=(Option.bind_some _ _).symm.trans H;rw [d9];with_reducible exact e3)|(have e3:=(Option.bind_some _ _).symm.trans H;with_reducible exact e3)|with_reducible exact H|(rw [d9];exact H)|exact H);have d4:=zqm d9;clear d9;have H':=zqm H;clear H
  go_enter Try.func37,Try.ntmps37
  go_wp2_with (first|((with_reducible refine gate_dst (N:=1) rfl ?_);refine box_event ?hg (N:=1) ?hd (cs:= #[.slice A0_0 l0_0.length c0_0,.slice A0_1 l0_1.length c0_1]) (t:=30) ?hr ?_;(case hd=>rfl);(case hg=>rfl);(case hr=>first|(go_simp;done)|(go_simp;rfl));intro a2 hg w4 hbox hb;have b7:=zqm (below_step zq0 hb);have a0:=zqm (hbox);have e0:=zqm ((by rw [hg];exact(below_size zq0):w.heap.size≤a2));have a3:=zqm ((by rw [hg];exact(below_size zq0):w.heap.size≤a2));clear HB;have HB:=b7;clear b7 hb hbox hg;have c7:w4.cell? ⟨a2,0,none⟩=some (.slice A0_0 l0_0.length c0_0):=(blk_cell a0.out 0).trans rfl;have c8:w4.cell? ⟨a2,1,none⟩=some (.slice A0_1 l0_1.length c0_1):=(blk_cell a0.out 1).trans rfl;have d0:=blk_frozen a0.out 0;have d1:=blk_frozen a0.out 1)|(go_at_call 42;(with_reducible refine(spec_LogicOk.calls k _ _ l0_0 _ _ l0_1 true _ ?side1 ?side2 ?side3 ?side4 A2.out).mono ?_);(case side1=> exact zq26);(case side2=>exact a9.out);(case side3=> exact zq129);(case side4=>exact d3.out);rintro e w6 ⟨rfl,hb⟩;replace a0:=zqm (blk_below (g:=a2) (o:= .cells #[.slice A0_0 l0_0.length c0_0,.slice A0_1 l0_1.length c0_1] 30 (0,0)) zq2 hb);replace HB:=zqm (below_step zq21 hb);clear hb)|((with_reducible refine gate_dst (N:=14) rfl ?_);refine Kd.R_lit (Kd.int .i64) _ 3 ?hg (N:=14) ?hd (xs:=([]:List Int)) (inner:= []) (ok:=fun _=>True) (okp:=fun _=>True) ?hr ?hp (fun _ hk=>hk) trivial (Below.refl _ _) (Nat.le_refl _) (by simp) ?_;(case hd=>rfl);(case hg=>rfl);(case hr=>first|(go_simp;done)|(go_simp;rfl));(case hp=>exact(Reps.none _ _));intro i3 w7 b8 hb hg_ hnew_;clear hg_ hnew_;(first|rw [← d4.out] at b8|(simp only [Int.reduceToNat] at b8;rw [← d4.out] at b8));have g0:=zqm (Kd.R_lower b8 (below_size zq21));replace a0:=zqm (blk_below (g:=a2) (o:= .cells #[.slice A0_0 l0_0.length c0_0,.slice A0_1 l0_1.length c0_1] 30 (0,0)) zq2 hb);replace HB:=zqm (below_step zq21 hb);clear hb b8))
  repeat(go_quiet (first|((with_reducible refine gate_dst (N:=1) rfl ?_);refine box_event ?hg (N:=1) ?hd (cs:= #[.slice A0_0 l0_0.length c0_0,.slice A0_1 l0_1.length c0_1]) (t:=30) ?hr ?_;(case hd=>rfl);(case hg=>rfl);(case hr=>first|(go_simp;done)|(go_simp;rfl));intro a2 hg w4 hbox hb;have b7:=zqm (below_step zq0 hb);have a0:=zqm (hbox);have e0:=zqm ((by rw [hg];exact(below_size zq0):w.heap.size≤a2));have a3:=zqm ((by rw [hg];exact(below_size zq0):w.heap.size≤a2));clear HB;have HB:=b7;clear b7 hb hbox hg;have c7:w4.cell? ⟨a2,0,none⟩=some (.slice A0_0 l0_0.length c0_0):=(blk_cell a0.out 0).trans rfl;have c8:w4.cell? ⟨a2,1,none⟩=some (.slice A0_1 l0_1.length c0_1):=(blk_cell a0.out 1).trans rfl;have d0:=blk_frozen a0.out 0;have d1:=blk_frozen a0.out 1)|(go_at_call 42;(with_reducible refine(spec_LogicOk.calls k _ _ l0_0 _ _ l0_1 true _ ?side1 ?side2 ?side3 ?side4 A2.out).mono ?_);(case side1=> exact zq26);(case side2=>exact a9.out);(case side3=> exact zq129);(case side4=>exact d3.out);rintro e w6 ⟨rfl,hb⟩;replace a0:=zqm (blk_below (g:=a2) (o:= .cells #[.slice A0_0 l0_0.length c0_0,.slice A0_1 l0_1.length c0_1] 30 (0,0)) zq2 hb);replace HB:=zqm (below_step zq21 hb);clear hb)|((with_reducible refine gate_dst (N:=14) rfl ?_);refine Kd.R_lit (Kd.int .i64) _ 3 ?hg (N:=14) ?hd (xs:=([]:List Int)) (inner:= []) (ok:=fun _=>True) (okp:=fun _=>True) ?hr ?hp (fun _ hk=>hk) trivial (Below.refl _ _) (Nat.le_refl _) (by simp) ?_;(case hd=>rfl);(case hg=>rfl);(case hr=>first|(go_simp;done)|(go_simp;rfl));(case hp=>exact(Reps.none _ _));intro i3 w7 b8 hb hg_ hnew_;clear hg_ hnew_;(first|rw [← d4.out] at b8|(simp only [Int.reduceToNat] at b8;rw [← d4.out] at b8));have g0:=zqm (Kd.R_lower b8 (below_size zq21));replace a0:=zqm (blk_below (g:=a2) (o:= .cells #[.slice A0_0 l0_0.length c0_0,.slice A0_1 l0_1.length c0_1] 30 (0,0)) zq2 hb);replace HB:=zqm (below_step zq21 hb);clear hb b8));try go_wp2_with (first|((with_reducible refine gate_dst (N:=1) rfl ?_);refine box_event ?hg (N:=1) ?hd (cs:= #[.slice A0_0 l0_0.length c0_0,.slice A0_1 l0_1.length c0_1]) (t:=30) ?hr ?_;(case hd=>rfl);(case hg=>rfl);(case hr=>first|(go_simp;done)|(go_simp;rfl));intro a2 hg w4 hbox hb;have b7:=zqm (below_step zq0 hb);have a0:=zqm (hbox);have e0:=zqm ((by rw [hg];exact(below_size zq0):w.heap.size≤a2));have a3:=zqm ((by rw [hg];exact(below_size zq0):w.heap.size≤a2));clear HB;have HB:=b7;clear b7 hb hbox hg;have c7:w4.cell? ⟨a2,0,none⟩=some (.slice A0_0 l0_0.length c0_0):=(blk_cell a0.out 0).trans rfl;have c8:w4.cell? ⟨a2,1,none⟩=some (.slice A0_1 l0_1.length c0_1):=(blk_cell a0.out 1).trans rfl;have d0:=blk_frozen a0.out 0;have d1:=blk_frozen a0.out 1)|(go_at_call 42;(with_reducible refine(spec_LogicOk.calls k _ _ l0_0 _ _ l0_1 true _ ?side1 ?side2 ?side3 ?side4 A2.out).mono ?_);(case side1=> exact zq26);(case side2=>exact a9.out);(case side3=> exact zq129);(case side4=>exact d3.out);rintro e w6 ⟨rfl,hb⟩;replace a0:=zqm (blk_below (g:=a2) (o:= .cells #[.slice A0_0 l0_0.length c0_0,.slice A0_1 l0_1.length c0_1] 30 (0,0)) zq2 hb);replace HB:=zqm (below_step zq21 hb);clear hb)|((with_reducible refine gate_dst (N:=14) rfl ?_);refine Kd.R_lit (Kd.int .i64) _ 3 ?hg (N:=14) ?hd (xs:=([]:List Int)) (inner:= []) (ok:=fun _=>True) (okp:=fun _=>True) ?hr ?hp (fun _ hk=>hk) trivial (Below.refl _ _) (Nat.le_refl _) (by simp) ?_;(case hd=>rfl);(case hg=>rfl);(case hr=>first|(go_simp;done)|(go_simp;rfl));(case hp=>exact(Reps.none _ _));intro i3 w7 b8 hb hg_ hnew_;clear hg_ hnew_;(first|rw [← d4.out] at b8|(simp only [Int.reduceToNat] at b8;rw [← d4.out] at b8));have g0:=zqm (Kd.R_lower b8 (below_size zq21));replace a0:=zqm (blk_below (g:=a2) (o:= .cells #[.slice A0_0 l0_0.length c0_0,.slice A0_1 l0_1.length c0_1] 30 (0,0)) zq2 hb);replace HB:=zqm (below_step zq21 hb);clear hb b8)))
  go_loopg [4,5] k (fun kq v4 v5 w'=> ∃(a1:List Int) (b9:Int),v5= .int .i64 b9∧Aside0 (spec_AddsUpOk.l0 kq (l0_1.length:Int) a1 b9 l0_0 l0_1=some r)∧Aside0 (kq≤k)∧Aside0 (Kd.R (Kd.int .i64) 3 w' w.heap.size (fun _=>True) v4 a1)∧Aside0 (w'.heap[a2]? =some (.cells #[(.slice A0_0 l0_0.length c0_0),(.slice A0_1 l0_1.length c0_1)] 30 (0,0)))∧Aside0 (Below w.heap.size w w'))
  case atStart=>exact⟨(i2),(0),(by first|rfl|(simp;done)|(simp [*];done)),H',⟨Nat.le_refl _⟩,⟨by(with_reducible repeat(first|apply Kd.R_alloc|apply Kd.R_drewN|apply Kd.R_drew));exact g0.out⟩,⟨zq2⟩,⟨zq21⟩⟩
  case round=>
   clear H';(try clear p2);(try clear c3);(try clear c7);(try clear c8);(try clear d0);(try clear d1);obtain⟨a1,b9,rfl,HA,e6,HO_4,a0,HB⟩:=hrel
   cases gk with
   |zero=>exact absurd HA.out (by simp [spec_AddsUpOk.l0])
   |succ k1=>
    have H:=HA.out;clear HA;simp only [spec_AddsUpOk.l0] at H
    by_cases c9:b9<(l0_1.length:Int)
    ·rw [if_pos c9] at H;have g6:decide (b9<(l0_1.length:Int))=true:=decide_eq_true c9;clear c9;replace H:=Option.bind_eq_some_iff.mp H;obtain⟨c0,i4,H⟩:=H;replace H:(if a1.length<17592186044416 then(spec_AddsUpOk.l0 k1 (l0_1.length:Int) (a1 ++ [c0]) (wrap64 (b9+1)) l0_0 l0_1) else(none))=some r:=H;have i5:=zqm i4;clear i4
     by_cases e7:a1.length<17592186044416
     ·rw [if_pos e7] at H;have LMc11:=zqm e7;clear e7;obtain⟨i6,e1⟩: ∃y_:List Int,y_=(a1 ++ [c0]):=⟨_,rfl⟩;(replace H:(spec_AddsUpOk.l0 k1 (l0_1.length:Int) i6 (wrap64 (b9+1)) l0_0 l0_1)=some r:=by first|(rw [e1];with_reducible exact H)|(have e3:=(Option.bind_some _ _).symm.trans H;rw [e1];with_reducible exact e3)|(have e3:=(Option.bind_some _ _).symm.trans H;with_reducible exact e3)|with_reducible exact H|(rw [e1];exact H)|exact H);have g1:=zqm e1;clear e1;have H':=zqm H;clear H;have e8:wr.cell? ⟨a2,0,none⟩=some (.slice A0_0 l0_0.length c0_0):=(blk_cell a0.out 0).trans rfl;have e9:wr.cell? ⟨a2,1,none⟩=some (.slice A0_1 l0_1.length c0_1):=(blk_cell a0.out 1).trans rfl;have f0:=blk_frozen a0.out 0;have f1:=blk_frozen a0.out 1
      go_wp2_with (first|(go_at_call 89;(with_reducible refine(spec_l8High.calls k1 _ _ l0_0 b9 c0 _ ?side1 ?side2 i5.out).mono ?_);(case side1=> exact zq26);(case side2=>exact a9.out);rintro e j2 ⟨rfl,hb⟩;replace HO_4:=zqm (Kd.R_below zq133 hb);replace a0:=zqm (blk_below (g:=a2) (o:= .cells #[.slice A0_0 l0_0.length c0_0,.slice A0_1 l0_1.length c0_1] 30 (0,0)) zq2 hb);replace HB:=zqm (below_step zq21 hb);clear hb)|((with_reducible refine gate_builtin (b:= .append) (xs:= #[.tmp 20,.tmp 25]) rfl ?_);at_builtin;refine Kd.R_append (Kd.int .i64) (w0:=w) w.heap.size rfl (.tmp 20) (.tmp 25) 28 3 (.int .i64 0) 8 rfl Try.underlying28 info3 rfl (by decide) (by omega) u4 a1 c0 [.int .i64 c0] (fun _=>True) (fun _=>False) rfl rfl ?aP (fun _ hk=>hk.elim) ?aF ?aO ?aB ?aS ?aL ?_;(case aP=>exact rfl);(case aB=> exact zq300);(case aF=>exact(fun _ _=>trivial));(case aO=> exact zq351);(case aS=> exact zq289);(case aL=>have:=LMc11.out;omega);intro i7 j3 ho hb hg hat;rw [← g1.out] at ho;replace a0:=zqm (blk_grown (g:=a2) (o:= .cells #[.slice A0_0 l0_0.length c0_0,.slice A0_1 l0_1.length c0_1] 30 (0,0)) zq2 hg (Kd.R_ne HO_4.out a0.out (by decide)));replace HB:=zqm (hb);have g2:=zqm (ho);clear HO_4;clear ho hb hg hat))
      repeat(go_quiet (first|(go_at_call 89;(with_reducible refine(spec_l8High.calls k1 _ _ l0_0 b9 c0 _ ?side1 ?side2 i5.out).mono ?_);(case side1=> exact zq26);(case side2=>exact a9.out);rintro e j2 ⟨rfl,hb⟩;replace HO_4:=zqm (Kd.R_below zq133 hb);replace a0:=zqm (blk_below (g:=a2) (o:= .cells #[.slice A0_0 l0_0.length c0_0,.slice A0_1 l0_1.length c0_1] 30 (0,0)) zq2 hb);replace HB:=zqm (below_step zq21 hb);clear hb)|((with_reducible refine gate_builtin (b:= .append) (xs:= #[.tmp 20,.tmp 25]) rfl ?_);at_builtin;refine Kd.R_append (Kd.int .i64) (w0:=w) w.heap.size rfl (.tmp 20) (.tmp 25) 28 3 (.int .i64 0) 8 rfl Try.underlying28 info3 rfl (by decide) (by omega) u4 a1 c0 [.int .i64 c0] (fun _=>True) (fun _=>False) rfl rfl ?aP (fun _ hk=>hk.elim) ?aF ?aO ?aB ?aS ?aL ?_;(case aP=>exact rfl);(case aB=> exact zq300);(case aF=>exact(fun _ _=>trivial));(case aO=> exact zq351);(case aS=> exact zq289);(case aL=>have:=LMc11.out;omega);intro i7 j3 ho hb hg hat;rw [← g1.out] at ho;replace a0:=zqm (blk_grown (g:=a2) (o:= .cells #[.slice A0_0 l0_0.length c0_0,.slice A0_1 l0_1.length c0_1] 30 (0,0)) zq2 hg (Kd.R_ne HO_4.out a0.out (by decide)));replace HB:=zqm (hb);have g2:=zqm (ho);clear HO_4;clear ho hb hg hat));try go_wp2_with (first|(go_at_call 89;(with_reducible refine(spec_l8High.calls k1 _ _ l0_0 b9 c0 _ ?side1 ?side2 i5.out).mono ?_);(case side1=> exact zq26);(case side2=>exact a9.out);rintro e j2 ⟨rfl,hb⟩;replace HO_4:=zqm (Kd.R_below zq133 hb);replace a0:=zqm (blk_below (g:=a2) (o:= .cells #[.slice A0_0 l0_0.length c0_0,.slice A0_1 l0_1.length c0_1] 30 (0,0)) zq2 hb);replace HB:=zqm (below_step zq21 hb);clear hb)|((with_reducible refine gate_builtin (b:= .append) (xs:= #[.tmp 20,.tmp 25]) rfl ?_);at_builtin;refine Kd.R_append (Kd.int .i64) (w0:=w) w.heap.size rfl (.tmp 20) (.tmp 25) 28 3 (.int .i64 0) 8 rfl Try.underlying28 info3 rfl (by decide) (by omega) u4 a1 c0 [.int .i64 c0] (fun _=>True) (fun _=>False) rfl rfl ?aP (fun _ hk=>hk.elim) ?aF ?aO ?aB ?aS ?aL ?_;(case aP=>exact rfl);(case aB=> exact zq300);(case aF=>exact(fun _ _=>trivial));(case aO=> exact zq351);(case aS=> exact zq289);(case aL=>have:=LMc11.out;omega);intro i7 j3 ho hb hg hat;rw [← g1.out] at ho;replace a0:=zqm (blk_grown (g:=a2) (o:= .cells #[.slice A0_0 l0_0.length c0_0,.slice A0_1 l0_1.length c0_1] 30 (0,0)) zq2 hg (Kd.R_ne HO_4.out a0.out (by decide)));replace HB:=zqm (hb);have g2:=zqm (ho);clear HO_4;clear ho hb hg hat)))
      go_roundg k1
      (case measure=>have:=e6.out;omega);case rel=>exact⟨(i6),(wrap64 (b9+1)),(by first|rfl|(simp;done)|(simp [*];done)),H',⟨by have:=e6.out;omega⟩,⟨by(with_reducible repeat(first|apply Kd.R_alloc|apply Kd.R_drewN|apply Kd.R_drew));exact g2.out⟩,⟨zq2⟩,⟨zq21⟩⟩
     ·rw [if_neg e7] at H;exact absurd H (by simp)
    ·rw [if_neg c9] at H;have g6:decide (b9<(l0_1.length:Int))=false:=decide_eq_false c9;clear c9;have H':=zqm H;clear H
     go_wp2
     repeat(go_quiet (fail);try go_wp2)
     go_loopg [6] k1 (fun kq v6 w'=> ∃(a4:Int),v6= .int .i64 a4∧Aside0 (spec_AddsUpOk.l1 kq (l0_1.length:Int) a1 a4 l0_0 l0_1=some r)∧Aside0 (kq≤k1)∧Aside0 (Kd.R (Kd.int .i64) 3 w' w.heap.size (fun _=>True) u4 a1)∧Aside0 (w'.heap[a2]? =some (.cells #[(.slice A0_0 l0_0.length c0_0),(.slice A0_1 l0_1.length c0_1)] 30 (0,0)))∧Aside0 (Below w.heap.size w w'))
     case atStart=>exact⟨(0),(by first|rfl|(simp;done)|(simp [*];done)),H',⟨Nat.le_refl _⟩,⟨zq133⟩,⟨zq2⟩,⟨zq21⟩⟩
     case round=>
      clear H';(try clear c1);(try clear p2);(try clear c3);(try clear p6);(try clear c9);(try clear g6);(try clear e7);(try clear e8);(try clear e9);(try clear c7);(try clear c8);(try clear f0);(try clear f1);(try clear d0);(try clear d1);(try clear p2);obtain⟨a4,rfl,HA,g9,HO_4,a0,HB⟩:=hrel
      cases gk with
      |zero=>exact absurd HA.out (by simp [spec_AddsUpOk.l1])
      |succ k2=>
       have H:=HA.out;clear HA;simp only [spec_AddsUpOk.l1] at H
       by_cases e4:a4<(l0_1.length:Int)
       ·rw [if_pos e4] at H;have h0:decide (a4<(l0_1.length:Int))=true:=decide_eq_true e4;clear e4;have H':=zqm H;clear H
        go_wp2
        repeat(go_quiet (fail);try go_wp2)
        go_loopg [7] k2 (fun kq v7 w'=> ∃(a6:Int),v7= .int .i64 a6∧Aside0 (spec_AddsUpOk.l2 kq (l0_1.length:Int) a1 a4 a6 l0_0 l0_1=some r)∧Aside0 (kq≤k2)∧Aside0 (Kd.R (Kd.int .i64) 3 w' w.heap.size (fun _=>True) u4 a1)∧Aside0 (w'.heap[a2]? =some (.cells #[(.slice A0_0 l0_0.length c0_0),(.slice A0_1 l0_1.length c0_1)] 30 (0,0)))∧Aside0 (Below w.heap.size w w'))
        case atStart=>exact⟨(0),(by first|rfl|(simp;done)|(simp [*];done)),H',⟨Nat.le_refl _⟩,⟨zq133⟩,⟨zq2⟩,⟨zq21⟩⟩
        case round=>
         clear H';(try clear c1);(try clear p2);(try clear c3);(try clear p6);(try clear c9);(try clear g6);(try clear e7);(try clear e4);(try clear h0);(try clear e8);(try clear e9);(try clear c7);(try clear c8);(try clear f0);(try clear f1);(try clear d0);(try clear d1);(try clear p2);(try clear p6);obtain⟨a6,rfl,HA,h1,HO_4,a0,HB⟩:=hrel
         cases gk with
         |zero=>exact absurd HA.out (by simp [spec_AddsUpOk.l2])
         |succ k3=>
          have H:=HA.out;clear HA;simp only [spec_AddsUpOk.l2] at H
          by_cases f2:a6<a4
          ·rw [if_pos f2] at H;have j0:decide (a6<a4)=true:=decide_eq_true f2;clear f2
           by_cases h2:0≤a4
           ·rw [if_pos h2] at H;have k8:decide (0≤a4)=true:=decide_eq_true h2;clear h2
            by_cases h3:a4<(a1.length:Int)
            ·rw [if_pos h3] at H;have k9:decide (a4<(a1.length:Int))=true:=decide_eq_true h3;clear h3
             by_cases h4:0≤a6
             ·rw [if_pos h4] at H;have l3:decide (0≤a6)=true:=decide_eq_true h4;clear h4
              by_cases h5:a6<(a1.length:Int)
              ·rw [if_pos h5] at H;have l4:decide (a6<(a1.length:Int))=true:=decide_eq_true h5;clear h5;replace H:=Option.bind_eq_some_iff.mp H;obtain⟨a7,i8,H⟩:=H;replace H:(if 0≤a7 then(if a7<(a1.length:Int) then((spec_l1Join.f k3 l0_0 a4 a6).bind fun a5=>(if 0≤a5 then(if a5<(a1.length:Int) then(if(wrap64 ((rd a1 a4)+(rd a1 a6)))=(wrap64 ((rd a1 a7)+(rd a1 a5))) then(spec_AddsUpOk.l2 k3 (l0_1.length:Int) a1 a4 (wrap64 (a6+1)) l0_0 l0_1) else(some false)) else(none)) else(none))) else(none)) else(none))=some r:=H;have f3:=zqm i8;clear i8
               by_cases h6:0≤a7
               ·rw [if_pos h6] at H;have l5:decide (0≤a7)=true:=decide_eq_true h6;clear h6
                by_cases h7:a7<(a1.length:Int)
                ·rw [if_pos h7] at H;have l6:decide (a7<(a1.length:Int))=true:=decide_eq_true h7;clear h7;replace H:=Option.bind_eq_some_iff.mp H;obtain⟨a5,i9,H⟩:=H;replace H:(if 0≤a5 then(if a5<(a1.length:Int) then(if(wrap64 ((rd a1 a4)+(rd a1 a6)))=(wrap64 ((rd a1 a7)+(rd a1 a5))) then(spec_AddsUpOk.l2 k3 (l0_1.length:Int) a1 a4 (wrap64 (a6+1)) l0_0 l0_1) else(some false)) else(none)) else(none))=some r:=H;have f4:=zqm i9;clear i9
                 by_cases h8:0≤a5
                 ·rw [if_pos h8] at H;have l7:decide (0≤a5)=true:=decide_eq_true h8;clear h8
                  by_cases h9:a5<(a1.length:Int)
                  ·rw [if_pos h9] at H;have l8:decide (a5<(a1.length:Int))=true:=decide_eq_true h9;clear h9
                   by_cases e5:(wrap64 ((rd a1 a4)+(rd a1 a6)))=(wrap64 ((rd a1 a7)+(rd a1 a5)))
                   ·rw [if_pos e5] at H;have g3:((wrap64 ((rd a1 a4)+(rd a1 a6)))==(wrap64 ((rd a1 a7)+(rd a1 a5))))=true:=beq_iff_eq.mpr e5;(have c27w0:((IntKind.i64.wrap ((rd a1 a4)+(rd a1 a6)))==(IntKind.i64.wrap ((rd a1 a7)+(rd a1 a5))))=true:=by simp only [i64_w];exact g3);have g4:((wrap64 ((rd a1 a4)+(rd a1 a6))) !=(wrap64 ((rd a1 a7)+(rd a1 a5))))=false:=bne_eq_false_iff_eq.mpr e5;(have c27w1:((IntKind.i64.wrap ((rd a1 a4)+(rd a1 a6))) !=(IntKind.i64.wrap ((rd a1 a7)+(rd a1 a5))))=false:=by simp only [i64_w];exact g4);clear e5;have H':=zqm H;clear H;obtain⟨l9,m0,j5⟩:=Kd.R_slice HO_4.out;subst j5;have d5:0≤(a4:Int):=zqo;have d6:a4<(a1.length:Int):=zqo;obtain⟨b4,g7,i0⟩:=Kd.at_int (Kd.R_reads' HO_4.out).2.2 a4 d5 d6
                    cases g7
                    replace d5:=eq_true d5;replace d6:=eq_true d6;have d7:0≤(a6:Int):=zqo;have d8:a6<(a1.length:Int):=zqo;obtain⟨g5,g8,i1⟩:=Kd.at_int (Kd.R_reads' HO_4.out).2.2 a6 d7 d8;obtain rfl:b4=g5:=(by injection g8);replace d7:=eq_true d7;replace d8:=eq_true d8;have j7:wr.cell? ⟨a2,0,none⟩=some (.slice A0_0 l0_0.length c0_0):=(blk_cell a0.out 0).trans rfl;have j8:wr.cell? ⟨a2,1,none⟩=some (.slice A0_1 l0_1.length c0_1):=(blk_cell a0.out 1).trans rfl;have j9:=blk_frozen a0.out 0;have k0:=blk_frozen a0.out 1
                    go_wp2_with (first|(go_at_call 81;(with_reducible refine(spec_l1Meet.calls k3 _ _ l0_0 a4 a6 a7 _ ?side1 ?side2 f3.out).mono ?_);(case side1=> exact zq26);(case side2=>exact a9.out);rintro e w' ⟨rfl,⟨nd,rfl⟩⟩;(try first|exact⟨rfl,_,World.drewN_drewN _ _ _⟩|exact⟨rfl,_,Eq.trans (World.drewN_drewN _ _ _) (congrArg (World.drewN _) (Nat.add_assoc _ _ _))⟩);have b0:0≤(a7:Int):=zqo;have b1:a7<(a1.length:Int):=zqo;obtain⟨b5,c2,c5⟩:=Kd.at_int (Kd.R_reads' HO_4.out).2.2 a7 b0 b1;obtain rfl:b4=b5:=(by injection c2);replace b0:=eq_true b0;replace b1:=eq_true b1)|(go_at_call 82;(with_reducible refine(spec_l1Join.calls k3 _ _ l0_0 a4 a6 a5 _ ?side1 ?side2 f4.out).mono ?_);(case side1=> exact zq61);(case side2=>exact a9.out);rintro e w' ⟨rfl,⟨nd,rfl⟩⟩;(try first|exact⟨rfl,_,World.drewN_drewN _ _ _⟩|exact⟨rfl,_,Eq.trans (World.drewN_drewN _ _ _) (congrArg (World.drewN _) (Nat.add_assoc _ _ _))⟩);have b2:0≤(a5:Int):=zqo;have b3:a5<(a1.length:Int):=zqo;obtain⟨b6,c4,c6⟩:=Kd.at_int (Kd.R_reads' HO_4.out).2.2 a5 b2 b3;obtain rfl:b4=b6:=(by injection c4);replace b2:=eq_true b2;replace b3:=eq_true b3))
                    repeat(go_quiet (first|(go_at_call 81;(with_reducible refine(spec_l1Meet.calls k3 _ _ l0_0 a4 a6 a7 _ ?side1 ?side2 f3.out).mono ?_);(case side1=> exact zq26);(case side2=>exact a9.out);rintro e w' ⟨rfl,⟨nd,rfl⟩⟩;(try first|exact⟨rfl,_,World.drewN_drewN _ _ _⟩|exact⟨rfl,_,Eq.trans (World.drewN_drewN _ _ _) (congrArg (World.drewN _) (Nat.add_assoc _ _ _))⟩);have b0:0≤(a7:Int):=zqo;have b1:a7<(a1.length:Int):=zqo;obtain⟨b5,c2,c5⟩:=Kd.at_int (Kd.R_reads' HO_4.out).2.2 a7 b0 b1;obtain rfl:b4=b5:=(by injection c2);replace b0:=eq_true b0;replace b1:=eq_true b1)|(go_at_call 82;(with_reducible refine(spec_l1Join.calls k3 _ _ l0_0 a4 a6 a5 _ ?side1 ?side2 f4.out).mono ?_);(case side1=> exact zq61);(case side2=>exact a9.out);rintro e w' ⟨rfl,⟨nd,rfl⟩⟩;(try first|exact⟨rfl,_,World.drewN_drewN _ _ _⟩|exact⟨rfl,_,Eq.trans (World.drewN_drewN _ _ _) (congrArg (World.drewN _) (Nat.add_assoc _ _ _))⟩);have b2:0≤(a5:Int):=zqo;have b3:a5<(a1.length:Int):=zqo;obtain⟨b6,c4,c6⟩:=Kd.at_int (Kd.R_reads' HO_4.out).2.2 a5 b2 b3;obtain rfl:b4=b6:=(by injection c4);replace b2:=eq_true b2;replace b3:=eq_true b3));try go_wp2_with (first|(go_at_call 81;(with_reducible refine(spec_l1Meet.calls k3 _ _ l0_0 a4 a6 a7 _ ?side1 ?side2 f3.out).mono ?_);(case side1=> exact zq26);(case side2=>exact a9.out);rintro e w' ⟨rfl,⟨nd,rfl⟩⟩;(try first|exact⟨rfl,_,World.drewN_drewN _ _ _⟩|exact⟨rfl,_,Eq.trans (World.drewN_drewN _ _ _) (congrArg (World.drewN _) (Nat.add_assoc _ _ _))⟩);have b0:0≤(a7:Int):=zqo;have b1:a7<(a1.length:Int):=zqo;obtain⟨b5,c2,c5⟩:=Kd.at_int (Kd.R_reads' HO_4.out).2.2 a7 b0 b1;obtain rfl:b4=b5:=(by injection c2);replace b0:=eq_true b0;replace b1:=eq_true b1)|(go_at_call 82;(with_reducible refine(spec_l1Join.calls k3 _ _ l0_0 a4 a6 a5 _ ?side1 ?side2 f4.out).mono ?_);(case side1=> exact zq61);(case side2=>exact a9.out);rintro e w' ⟨rfl,⟨nd,rfl⟩⟩;(try first|exact⟨rfl,_,World.drewN_drewN _ _ _⟩|exact⟨rfl,_,Eq.trans (World.drewN_drewN _ _ _) (congrArg (World.drewN _) (Nat.add_assoc _ _ _))⟩);have b2:0≤(a5:Int):=zqo;have b3:a5<(a1.length:Int):=zqo;obtain⟨b6,c4,c6⟩:=Kd.at_int (Kd.R_reads' HO_4.out).2.2 a5 b2 b3;obtain rfl:b4=b6:=(by injection c4);replace b2:=eq_true b2;replace b3:=eq_true b3)))
                    go_roundg k3
                    (case measure=> exact zq403);case rel=>exact⟨(wrap64 (a6+1)),(by first|rfl|(simp;done)|(simp [*];done)),H',⟨zq403⟩,⟨zq133⟩,⟨zq2⟩,⟨zq21⟩⟩
                   ·rw [if_neg e5] at H;have g3:((wrap64 ((rd a1 a4)+(rd a1 a6)))==(wrap64 ((rd a1 a7)+(rd a1 a5))))=false:=beq_eq_false_iff_ne.mpr e5;(have c27w0:((IntKind.i64.wrap ((rd a1 a4)+(rd a1 a6)))==(IntKind.i64.wrap ((rd a1 a7)+(rd a1 a5))))=false:=by simp only [i64_w];exact g3);have g4:((wrap64 ((rd a1 a4)+(rd a1 a6))) !=(wrap64 ((rd a1 a7)+(rd a1 a5))))=true:=bne_iff_ne.mpr e5;(have c27w1:((IntKind.i64.wrap ((rd a1 a4)+(rd a1 a6))) !=(IntKind.i64.wrap ((rd a1 a7)+(rd a1 a5))))=true:=by simp only [i64_w];exact g4);obtain rfl:=Option.some.inj H;obtain⟨m1,m2,j6⟩:=Kd.R_slice HO_4.out;subst j6;have d5:0≤(a4:Int):=zqo;have d6:a4<(a1.length:Int):=zqo;obtain⟨b4,g7,i0⟩:=Kd.at_int (Kd.R_reads' HO_4.out).2.2 a4 d5 d6
                    cases g7
                    replace d5:=eq_true d5;replace d6:=eq_true d6;have d7:0≤(a6:Int):=zqo;have d8:a6<(a1.length:Int):=zqo;obtain⟨g5,g8,i1⟩:=Kd.at_int (Kd.R_reads' HO_4.out).2.2 a6 d7 d8;obtain rfl:b4=g5:=(by injection g8);replace d7:=eq_true d7;replace d8:=eq_true d8;have k4:wr.cell? ⟨a2,0,none⟩=some (.slice A0_0 l0_0.length c0_0):=(blk_cell a0.out 0).trans rfl;have k5:wr.cell? ⟨a2,1,none⟩=some (.slice A0_1 l0_1.length c0_1):=(blk_cell a0.out 1).trans rfl;have k6:=blk_frozen a0.out 0;have k7:=blk_frozen a0.out 1
                    go_wp2_with (first|(go_at_call 81;(with_reducible refine(spec_l1Meet.calls k3 _ _ l0_0 a4 a6 a7 _ ?side1 ?side2 f3.out).mono ?_);(case side1=> exact zq26);(case side2=>exact a9.out);rintro e w' ⟨rfl,⟨nd,rfl⟩⟩;(try first|exact⟨rfl,_,World.drewN_drewN _ _ _⟩|exact⟨rfl,_,Eq.trans (World.drewN_drewN _ _ _) (congrArg (World.drewN _) (Nat.add_assoc _ _ _))⟩);have b0:0≤(a7:Int):=zqo;have b1:a7<(a1.length:Int):=zqo;obtain⟨b5,c2,c5⟩:=Kd.at_int (Kd.R_reads' HO_4.out).2.2 a7 b0 b1;obtain rfl:b4=b5:=(by injection c2);replace b0:=eq_true b0;replace b1:=eq_true b1)|(go_at_call 82;(with_reducible refine(spec_l1Join.calls k3 _ _ l0_0 a4 a6 a5 _ ?side1 ?side2 f4.out).mono ?_);(case side1=> exact zq61);(case side2=>exact a9.out);rintro e w' ⟨rfl,⟨nd,rfl⟩⟩;(try first|exact⟨rfl,_,World.drewN_drewN _ _ _⟩|exact⟨rfl,_,Eq.trans (World.drewN_drewN _ _ _) (congrArg (World.drewN _) (Nat.add_assoc _ _ _))⟩);have b2:0≤(a5:Int):=zqo;have b3:a5<(a1.length:Int):=zqo;obtain⟨b6,c4,c6⟩:=Kd.at_int (Kd.R_reads' HO_4.out).2.2 a5 b2 b3;obtain rfl:b4=b6:=(by injection c4);replace b2:=eq_true b2;replace b3:=eq_true b3))
                    repeat(go_quiet (first|(go_at_call 81;(with_reducible refine(spec_l1Meet.calls k3 _ _ l0_0 a4 a6 a7 _ ?side1 ?side2 f3.out).mono ?_);(case side1=> exact zq26);(case side2=>exact a9.out);rintro e w' ⟨rfl,⟨nd,rfl⟩⟩;(try first|exact⟨rfl,_,World.drewN_drewN _ _ _⟩|exact⟨rfl,_,Eq.trans (World.drewN_drewN _ _ _) (congrArg (World.drewN _) (Nat.add_assoc _ _ _))⟩);have b0:0≤(a7:Int):=zqo;have b1:a7<(a1.length:Int):=zqo;obtain⟨b5,c2,c5⟩:=Kd.at_int (Kd.R_reads' HO_4.out).2.2 a7 b0 b1;obtain rfl:b4=b5:=(by injection c2);replace b0:=eq_true b0;replace b1:=eq_true b1)|(go_at_call 82;(with_reducible refine(spec_l1Join.calls k3 _ _ l0_0 a4 a6 a5 _ ?side1 ?side2 f4.out).mono ?_);(case side1=> exact zq61);(case side2=>exact a9.out);rintro e w' ⟨rfl,⟨nd,rfl⟩⟩;(try first|exact⟨rfl,_,World.drewN_drewN _ _ _⟩|exact⟨rfl,_,Eq.trans (World.drewN_drewN _ _ _) (congrArg (World.drewN _) (Nat.add_assoc _ _ _))⟩);have b2:0≤(a5:Int):=zqo;have b3:a5<(a1.length:Int):=zqo;obtain⟨b6,c4,c6⟩:=Kd.at_int (Kd.R_reads' HO_4.out).2.2 a5 b2 b3;obtain rfl:b4=b6:=(by injection c4);replace b2:=eq_true b2;replace b3:=eq_true b3));try go_wp2_with (first|(go_at_call 81;(with_reducible refine(spec_l1Meet.calls k3 _ _ l0_0 a4 a6 a7 _ ?side1 ?side2 f3.out).mono ?_);(case side1=> exact zq26);(case side2=>exact a9.out);rintro e w' ⟨rfl,⟨nd,rfl⟩⟩;(try first|exact⟨rfl,_,World.drewN_drewN _ _ _⟩|exact⟨rfl,_,Eq.trans (World.drewN_drewN _ _ _) (congrArg (World.drewN _) (Nat.add_assoc _ _ _))⟩);have b0:0≤(a7:Int):=zqo;have b1:a7<(a1.length:Int):=zqo;obtain⟨b5,c2,c5⟩:=Kd.at_int (Kd.R_reads' HO_4.out).2.2 a7 b0 b1;obtain rfl:b4=b5:=(by injection c2);replace b0:=eq_true b0;replace b1:=eq_true b1)|(go_at_call 82;(with_reducible refine(spec_l1Join.calls k3 _ _ l0_0 a4 a6 a5 _ ?side1 ?side2 f4.out).mono ?_);(case side1=> exact zq61);(case side2=>exact a9.out);rintro e w' ⟨rfl,⟨nd,rfl⟩⟩;(try first|exact⟨rfl,_,World.drewN_drewN _ _ _⟩|exact⟨rfl,_,Eq.trans (World.drewN_drewN _ _ _) (congrArg (World.drewN _) (Nat.add_assoc _ _ _))⟩);have b2:0≤(a5:Int):=zqo;have b3:a5<(a1.length:Int):=zqo;obtain⟨b6,c4,c6⟩:=Kd.at_int (Kd.R_reads' HO_4.out).2.2 a5 b2 b3;obtain rfl:b4=b6:=(by injection c4);replace b2:=eq_true b2;replace b3:=eq_true b3)))
                    go_ret
                    exact⟨zq11,zq21⟩
                  ·rw [if_neg h9] at H;exact absurd H (by simp)
                 ·rw [if_neg h8] at H;exact absurd H (by simp)
                ·rw [if_neg h7] at H;exact absurd H (by simp)
               ·rw [if_neg h6] at H;exact absurd H (by simp)
              ·rw [if_neg h5] at H;exact absurd H (by simp)
             ·rw [if_neg h4] at H;exact absurd H (by simp)
            ·rw [if_neg h3] at H;exact absurd H (by simp)
           ·rw [if_neg h2] at H;exact absurd H (by simp)
          ·rw [if_neg f2] at H;have j0:decide (a6<a4)=false:=decide_eq_false f2;clear f2;have H':=zqm H;clear H
           go_wp2
           repeat(go_quiet (fail);try go_wp2)
           go_roundg k3
           (case measure=> exact zq403);case rel=>exact⟨(wrap64 (a4+1)),(by first|rfl|(simp;done)|(simp [*];done)),H',⟨zq403⟩,⟨zq133⟩,⟨zq2⟩,⟨zq21⟩⟩
       ·rw [if_neg e4] at H;have h0:decide (a4<(l0_1.length:Int))=false:=decide_eq_false e4;clear e4;obtain rfl:=Option.some.inj H
        go_wp2
        repeat(go_quiet (fail);try go_wp2)
        go_ret
        exact⟨zq11,zq21⟩
 ·replace c3:=Bool.eq_false_iff.mpr c3;subst c3;(have H1:(some false)=some r:=by rw [if_neg (show¬(false=true) by decide)] at H;exact H);clear H;have H:=H1;clear H1;obtain rfl:=Option.some.inj H
  go_enter Try.func37,Try.ntmps37
  go_wp2_with (first|((with_reducible refine gate_dst (N:=1) rfl ?_);refine box_event ?hg (N:=1) ?hd (cs:= #[.slice A0_0 l0_0.length c0_0,.slice A0_1 l0_1.length c0_1]) (t:=30) ?hr ?_;(case hd=>rfl);(case hg=>rfl);(case hr=>first|(go_simp;done)|(go_simp;rfl));intro a2 hg e2 hbox hb;have b7:=zqm (below_step zq0 hb);have a0:=zqm (hbox);have e0:=zqm ((by rw [hg];exact(below_size zq0):w.heap.size≤a2));have a3:=zqm ((by rw [hg];exact(below_size zq0):w.heap.size≤a2));clear HB;have HB:=b7;clear b7 hb hbox hg;have f5:e2.cell? ⟨a2,0,none⟩=some (.slice A0_0 l0_0.length c0_0):=(blk_cell a0.out 0).trans rfl;have f6:e2.cell? ⟨a2,1,none⟩=some (.slice A0_1 l0_1.length c0_1):=(blk_cell a0.out 1).trans rfl;have f7:=blk_frozen a0.out 0;have f8:=blk_frozen a0.out 1)|(go_at_call 42;(with_reducible refine(spec_LogicOk.calls k _ _ l0_0 _ _ l0_1 false _ ?side1 ?side2 ?side3 ?side4 A2.out).mono ?_);(case side1=> exact zq26);(case side2=>exact a9.out);(case side3=> exact zq129);(case side4=>exact d3.out);rintro e j4 ⟨rfl,hb⟩;replace a0:=zqm (blk_below (g:=a2) (o:= .cells #[.slice A0_0 l0_0.length c0_0,.slice A0_1 l0_1.length c0_1] 30 (0,0)) zq2 hb);replace HB:=zqm (below_step zq21 hb);clear hb))
  repeat(go_quiet (first|((with_reducible refine gate_dst (N:=1) rfl ?_);refine box_event ?hg (N:=1) ?hd (cs:= #[.slice A0_0 l0_0.length c0_0,.slice A0_1 l0_1.length c0_1]) (t:=30) ?hr ?_;(case hd=>rfl);(case hg=>rfl);(case hr=>first|(go_simp;done)|(go_simp;rfl));intro a2 hg e2 hbox hb;have b7:=zqm (below_step zq0 hb);have a0:=zqm (hbox);have e0:=zqm ((by rw [hg];exact(below_size zq0):w.heap.size≤a2));have a3:=zqm ((by rw [hg];exact(below_size zq0):w.heap.size≤a2));clear HB;have HB:=b7;clear b7 hb hbox hg;have f5:e2.cell? ⟨a2,0,none⟩=some (.slice A0_0 l0_0.length c0_0):=(blk_cell a0.out 0).trans rfl;have f6:e2.cell? ⟨a2,1,none⟩=some (.slice A0_1 l0_1.length c0_1):=(blk_cell a0.out 1).trans rfl;have f7:=blk_frozen a0.out 0;have f8:=blk_frozen a0.out 1)|(go_at_call 42;(with_reducible refine(spec_LogicOk.calls k _ _ l0_0 _ _ l0_1 false _ ?side1 ?side2 ?side3 ?side4 A2.out).mono ?_);(case side1=> exact zq26);(case side2=>exact a9.out);(case side3=> exact zq129);(case side4=>exact d3.out);rintro e j4 ⟨rfl,hb⟩;replace a0:=zqm (blk_below (g:=a2) (o:= .cells #[.slice A0_0 l0_0.length c0_0,.slice A0_1 l0_1.length c0_1] 30 (0,0)) zq2 hb);replace HB:=zqm (below_step zq21 hb);clear hb));try go_wp2_with (first|((with_reducible refine gate_dst (N:=1) rfl ?_);refine box_event ?hg (N:=1) ?hd (cs:= #[.slice A0_0 l0_0.length c0_0,.slice A0_1 l0_1.length c0_1]) (t:=30) ?hr ?_;(case hd=>rfl);(case hg=>rfl);(case hr=>first|(go_simp;done)|(go_simp;rfl));intro a2 hg e2 hbox hb;have b7:=zqm (below_step zq0 hb);have a0:=zqm (hbox);have e0:=zqm ((by rw [hg];exact(below_size zq0):w.heap.size≤a2));have a3:=zqm ((by rw [hg];exact(below_size zq0):w.heap.size≤a2));clear HB;have HB:=b7;clear b7 hb hbox hg;have f5:e2.cell? ⟨a2,0,none⟩=some (.slice A0_0 l0_0.length c0_0):=(blk_cell a0.out 0).trans rfl;have f6:e2.cell? ⟨a2,1,none⟩=some (.slice A0_1 l0_1.length c0_1):=(blk_cell a0.out 1).trans rfl;have f7:=blk_frozen a0.out 0;have f8:=blk_frozen a0.out 1)|(go_at_call 42;(with_reducible refine(spec_LogicOk.calls k _ _ l0_0 _ _ l0_1 false _ ?side1 ?side2 ?side3 ?side4 A2.out).mono ?_);(case side1=> exact zq26);(case side2=>exact a9.out);(case side3=> exact zq129);(case side4=>exact d3.out);rintro e j4 ⟨rfl,hb⟩;replace a0:=zqm (blk_below (g:=a2) (o:= .cells #[.slice A0_0 l0_0.length c0_0,.slice A0_1 l0_1.length c0_1] 30 (0,0)) zq2 hb);replace HB:=zqm (below_step zq21 hb);clear hb)))
  go_ret
  exact⟨zq11,zq21⟩
end Go.Proofs.Ytdoomkcgdcfmlaa.Print
end
section
namespace Oml
universe u
namespace OL
variable {α : Type u} (L : OL α)
theorem meet_comm (a b : α) : L.meet a b = L.meet b a :=
  L.le_antisymm _ _ (L.le_meet _ _ _ (L.meet_r _ _) (L.meet_l _ _)) (L.le_meet _ _ _ (L.meet_r _ _) (L.meet_l _ _))
theorem meet_le_l {a b c : α} (h : L.le a c) : L.le (L.meet a b) c := L.le_trans _ _ _ (L.meet_l _ _) h
theorem meet_le_r {a b c : α} (h : L.le b c) : L.le (L.meet a b) c := L.le_trans _ _ _ (L.meet_r _ _) h
theorem le_join_l {a b c : α} (h : L.le c a) : L.le c (L.join a b) := L.le_trans _ _ _ h (L.join_l _ _)
theorem le_join_r {a b c : α} (h : L.le c b) : L.le c (L.join a b) := L.le_trans _ _ _ h (L.join_r _ _)
theorem meet_mono {a b c d : α} (h : L.le a c) (k : L.le b d) : L.le (L.meet a b) (L.meet c d) := L.le_meet _ _ _ (L.meet_le_l h) (L.meet_le_r k)
theorem join_mono {a b c d : α} (h : L.le a c) (k : L.le b d) : L.le (L.join a b) (L.join c d) := L.join_le _ _ _ (L.le_join_l h) (L.le_join_r k)
theorem meet_eq_r (a b : α) : L.meet a b = b ↔ L.le b a := by rw [L.meet_comm]; exact L.meet_eq_l b a
theorem join_eq_r (a b : α) : L.join a b = b ↔ L.le a b := by
  constructor
  · intro h; rw [← h]; exact L.join_l _ _
  · intro h; exact L.le_antisymm _ _ (L.join_le _ _ _ h (L.le_refl _)) (L.join_r _ _)
theorem join_eq_l (a b : α) : L.join a b = a ↔ L.le b a := by rw [L.join_comm]; exact L.join_eq_r b a
theorem bot_meet (a : α) : L.meet L.bot a = L.bot := (L.meet_eq_l _ _).2 (L.bot_le _)
theorem bot_join (a : α) : L.join L.bot a = a := (L.join_eq_r _ _).2 (L.bot_le _)
theorem le_bot {a : α} (h : L.le a L.bot) : a = L.bot := L.le_antisymm _ _ h (L.bot_le _)
theorem meet_join_absorb (a b : α) : L.meet a (L.join a b) = a := (L.meet_eq_l _ _).2 (L.join_l _ _)
theorem join_meet_absorb (a b : α) : L.join a (L.meet a b) = a := (L.join_eq_l _ _).2 (L.meet_l _ _)
def Modular : Prop := ∀ a b c, L.le a c → L.join a (L.meet b c) = L.meet c (L.join a b)
variable {L}
theorem modular_iff_pentagon : L.Modular ↔ ∀ a c b, L.le a c → L.meet b a = L.meet b c → L.join b a = L.join b c → a = c := by
  constructor
  · intro M a c b h e1 e2
    have:=M a b c h
    rw [← e1,L.join_comm a b,e2,L.meet_comm b a,L.join_meet_absorb,L.join_comm b c,L.meet_join_absorb] at this
    exact this
  · intro h a b c hac
    have hxy : L.le (L.join a (L.meet b c)) (L.meet c (L.join a b)) :=
      L.join_le _ _ _ (L.le_meet _ _ _ hac (L.join_l _ _)) (L.le_meet _ _ _ (L.meet_r _ _) (L.le_join_r (L.meet_l _ _)))
    refine h _ _ b hxy ?_ ?_
    · apply L.le_antisymm
      · exact L.meet_mono (L.le_refl _) hxy
      · refine L.le_meet _ _ _ (L.meet_l _ _) (L.le_join_r (L.meet_mono (L.le_refl _) (L.meet_l _ _)))
    · apply L.le_antisymm
      · exact L.join_mono (L.le_refl _) hxy
      · refine L.join_le _ _ _ (L.join_l _ _) ?_
        refine L.meet_le_r (L.join_le _ _ _ (L.le_join_r (L.join_l _ _)) (L.join_l _ _))
structure High (L : OL α) (h : α → Nat) : Prop where
  mono : ∀ a b, L.le a b → a ≠ b → h a < h b
  step : ∀ a, h a ≠ 0 → ∃ b, L.le b a ∧ b ≠ a ∧ h b + 1 = h a
def Cover (L : OL α) (a b : α) : Prop := L.le a b ∧ a ≠ b ∧ ∀ t, L.le a t → L.le t b → t = a ∨ t = b
theorem High.eq {h : α → Nat} (H : L.High h) {a b : α} (k : L.le a b) (e : h b ≤ h a) : a = b := by
  apply Classical.byContradiction
  intro ne
  have := H.mono _ _ k ne
  omega
theorem High.bot_iff {h : α → Nat} (H : L.High h) (a : α) : h a = 0 ↔ a = L.bot := by
  constructor
  · intro e
    exact (H.eq (L.bot_le a) (by omega)).symm
  · rintro rfl
    apply Classical.byContradiction
    intro ne
    obtain ⟨b, hb, hne, _⟩ := H.step _ ne
    exact hne (L.le_bot hb)
theorem High.adds_modular {h : α → Nat} (H : L.High h) (A : ∀ a b, h a + h b = h (L.meet a b) + h (L.join a b)) : L.Modular := by
  rw [modular_iff_pentagon]
  intro a c b hac e1 e2
  have h1 := A b a
  have h2 := A b c
  rw [e1, e2] at h1
  exact H.eq hac (by omega)
theorem Modular.cover_meet (M : L.Modular) {y z : α} (h : L.Cover y (L.join y z)) (hz : ¬ L.le z y) : L.Cover (L.meet y z) z := by
  refine⟨L.meet_r _ _,fun e=>hz ((L.meet_eq_r y z).1 e),fun t h1 h2=>?_⟩
  -- t ∨ y is y or y ∨ z
  have k1:L.le y (L.join t y):=L.join_r _ _
  have k2:L.le (L.join t y) (L.join y z):=L.join_le _ _ _ (L.le_join_r h2) (L.join_l _ _)
  have em:=M t y z h2
  -- t ∨ (y ∧ z) = z ∧ (t ∨ y)
  rw [(L.join_eq_l t _).2 h1] at em
  rcases h.2.2 _ k1 k2 with e|e
  · left;rw [e,L.meet_comm] at em;exact em
  · right;rw [e,L.join_comm y z,L.meet_join_absorb] at em;exact em
theorem Modular.cover_join (M : L.Modular) {x a b : α} (h : L.Cover x a) (hx : L.le (L.meet b a) x) : L.Cover (L.join x b) (L.join a b) := by
  have e0 : L.meet a (L.join x b) = x := by
    have:=M x b a h.1
    rw [← this];exact(L.join_eq_l _ _).2 hx
  refine⟨L.join_mono h.1 (L.le_refl _),fun e=>?_,fun t h1 h2=>?_⟩
  · rw [e, L.meet_join_absorb] at e0
    exact h.2.1 e0.symm
  · have hbt : L.le b t := L.le_trans _ _ _ (L.join_r _ _) h1
    have et : L.join b (L.meet a t) = t := by
      rw [M b a t hbt,(L.meet_eq_l t _).2]
      rw [L.join_comm];exact h2
    have k1:L.le x (L.meet a t):=L.le_meet _ _ _ h.1 (L.le_trans _ _ _ (L.join_l _ _) h1)
    rcases h.2.2 _ k1 (L.meet_l _ _) with e|e
    · left;rw [← et,e,L.join_comm]
    · right;rw [← et,e,L.join_comm]
theorem High.cover {h : α → Nat} (H : L.High h) {a b : α} (h1 : L.le a b) (h2 : h a + 1 = h b) : L.Cover a b := by
  refine ⟨h1, fun e => by rw [e] at h2; omega, fun t k1 k2 => ?_⟩
  by_cases e : a = t
  · exact .inl e.symm
  · have := H.mono _ _ k1 e
    exact .inr (H.eq k2 (by omega))
theorem Modular.high_cover (M : L.Modular) {h : α → Nat} (H : L.High h) : ∀ (n : Nat) (y x : α), h x ≤ n → L.Cover y x → h x = h y + 1 := by
  intro n
  induction n with
  | zero =>
    intro y x hx hc
    have:=H.mono _ _ hc.1 hc.2.1
    omega
  | succ n ih =>
    intro y x hx hc
    have hlt:=H.mono _ _ hc.1 hc.2.1
    obtain⟨z,hz,hzne,hzh⟩:=H.step x (by omega)
    have hcz:=H.cover hz hzh
    by_cases e:y=z
    · rw [e];exact hzh.symm
    · have hnz : ¬ L.le z y := by
        intro k
        rcases hcz.2.2 y k hc.1 with e2|e2
        · exact e e2
        · exact hc.2.1 e2
      have hny : ¬ L.le y z := by
        intro k
        rcases hc.2.2 z k hz with e2|e2
        · exact e e2.symm
        · exact hzne e2
      have hj : L.join y z = x := by
        rcases hc.2.2 (L.join y z) (L.join_l _ _) (L.join_le _ _ _ hc.1 hz) with e2|e2
        · exact absurd ((L.join_eq_l y z).1 e2) hnz
        · exact e2
      have c1:=M.cover_meet (y:=y) (z:=z) (by rw [hj];exact hc) hnz
      have c2:=M.cover_meet (y:=z) (z:=y) (by rw [L.join_comm,hj];exact hcz) hny
      have e1:=ih _ _ (by omega) c1
      have e2:=ih _ _ (by omega) c2
      rw [L.meet_comm z y] at e2
      omega
theorem Modular.adds (M : L.Modular) {h : α → Nat} (H : L.High h) : ∀ (n : Nat) (a b : α), h a ≤ n → h a + h b = h (L.meet a b) + h (L.join a b) := by
  intro n
  induction n with
  | zero =>
    intro a b ha
    obtain rfl:=(H.bot_iff a).1 (by omega)
    rw [L.bot_meet,L.bot_join]
  | succ n ih =>
    intro a b ha
    by_cases e:L.le a b
    · rw [(L.meet_eq_l a b).2 e,(L.join_eq_r a b).2 e]
    · -- x between a ∧ b and a, covered by a
      have hm:L.meet a b≠a:=fun z=>e ((L.meet_eq_l a b).1 z)
      have hx : ∃ x, L.le (L.meet a b) x ∧ L.Cover x a := by
        -- of all x with a ∧ b ≤ x < a take one that is as high as may be
        have key : ∀ m, ∀ x, L.le (L.meet a b) x → L.le x a → x ≠ a → h a - h x ≤ m → ∃ x, L.le (L.meet a b) x ∧ L.Cover x a := by
          intro m
          induction m with
          | zero =>
            intro x _ h2 h3 h4
            have:=H.mono _ _ h2 h3
            omega
          | succ m ihm =>
            intro x h1 h2 h3 h4
            by_cases hc:L.Cover x a
            · exact⟨x,h1,hc⟩
            · have : ∃ t, L.le x t ∧ L.le t a ∧ t ≠ x ∧ t ≠ a := by
                apply Classical.byContradiction
                intro hno
                refine hc ⟨h2,h3,fun t k1 k2=>?_⟩
                apply Classical.byContradiction
                intro hh
                exact hno ⟨t,k1,k2,fun z=>hh (.inl z),fun z=>hh (.inr z)⟩
              obtain⟨t,k1,k2,k3,k4⟩:=this
              have:=H.mono _ _ k1 (Ne.symm k3)
              have:=H.mono _ _ k2 k4
              exact ihm t (L.le_trans _ _ _ h1 k1) k2 k4 (by omega)
        exact key _ _ (L.le_refl _) (L.meet_l _ _) hm (Nat.le_refl _)
      obtain⟨x,h1,hc⟩:=hx
      have hxa:=M.high_cover H _ _ _ (Nat.le_refl _) hc
      have hcj:=M.cover_join hc (b:=b) (by rw [L.meet_comm];exact h1)
      have hj:=M.high_cover H _ _ _ (Nat.le_refl _) hcj
      have hmx : L.meet x b = L.meet a b :=
        L.le_antisymm _ _ (L.meet_mono hc.1 (L.le_refl _)) (L.le_meet _ _ _ h1 (L.meet_r _ _))
      have:=ih x b (by omega)
      rw [hmx] at this
      omega
theorem modular_iff_adds {h : α → Nat} (H : L.High h) : L.Modular ↔ ∀ a b, h a + h b = h (L.meet a b) + h (L.join a b) :=
  ⟨fun M a b => M.adds H _ a b (Nat.le_refl _), H.adds_modular⟩
end OL
end Oml
end
section
namespace Oml
theorem allN_false {n : Nat} {p : Nat → Bool} : allN n p = false ↔ ∃ i, i < n ∧ p i = false := by
  rw [← Bool.not_eq_true,allN_iff]
  constructor
  · intro h
    apply Classical.byContradiction
    intro k
    exact h fun i hi => by
      cases e:p i
      · exact absurd ⟨i,hi,e⟩ k
      · rfl
  · rintro ⟨i, hi, e⟩ h
    rw [h i hi] at e
    exact absurd e (by simp)
end Oml
end
section
namespace Go.Proofs.Ytdoomkcgdcfmlaa.Print
open Go.RowKit Go.Proofs.YtdoomkcgdcfmlaaW.PrintWords Go.Proofs.YtdoomkcgdcfmlaaW.PrintLast Go.Proofs.YtdoomkcgdcfmlaaW.PrintMore
open Oml
def leI (U : List (List Int)) (a b : Int) : Bool := leB U a.toNat b.toNat
section
variable {U : List (List Int)} {N : List Int} (L : Logic U N)
include L
theorem _root_.Oml.Logic.in_and {a b : Int} (ha : In U a) (hb : In U b) : In U (andI U a b) := by
  obtain⟨m,hm⟩:=Option.isSome_iff_exists.1 (L.meets a.toNat b.toNat (by have:=ha.1;have:=ha.2;omega) (by have:=hb.1;have:=hb.2;omega))
  have:=(findN_some hm).1
  unfold In andI mI;rw [hm];simp only [optI];omega
theorem _root_.Oml.Logic.in_or {a b : Int} (ha : In U a) (hb : In U b) : In U (orI U a b) := by
  obtain⟨m,hm⟩:=Option.isSome_iff_exists.1 (L.joins a.toNat b.toNat (by have:=ha.1;have:=ha.2;omega) (by have:=hb.1;have:=hb.2;omega))
  have:=(findN_some hm).1
  unfold In orI jI;rw [hm];simp only [optI];omega
theorem _root_.Oml.Logic.le_val {a b : Int} (ha : In U a) (hb : In U b) : at2 U a.toNat b.toNat = if leI U a b = true then 1 else 0 :=
  L.toOrder.val (by have := ha.1; have := ha.2; omega) (by have := hb.1; have := hb.2; omega)
end
end Go.Proofs.Ytdoomkcgdcfmlaa.Print
end
section
namespace Go.Proofs.Ytdoomkcgdcfmlaa.Print
open Go.RowKit Go.Proofs.YtdoomkcgdcfmlaaW.PrintWords Go.Proofs.YtdoomkcgdcfmlaaW.PrintLast Go.Proofs.YtdoomkcgdcfmlaaW.PrintMore
open Oml
theorem goesV_ {P : Program} {ops : Array Oper} {Q : Exit → Act → World → Prop} {rest : List Oper} {oi : Oper} {a : Act} {w : World} (N : Option Tmp) (hd : oi.dst = N) (hg : oi.guard = none) {f : FuncId} {fn : Func} {x : Operand} {xo : Array Operand} {ts : Array TypeId} {cs : Array Value}
    (hf : P.funcs[f]? = some fn) (hname : (fn.name == "runtime.NumGoroutine") = false) (hb : fn.body.isSome = true) (args : Array Value)
    (hop : oi.op = .call { callee := .value x, args := xo, argTypes := ts }) (hx : a.eval x = .func (.func f) #[] cs) (hargs : xo.map a.eval = args)
    (h : Calls P f (args ++ cs) w fun e w' => ∃ v, e = .returned v ∧ wpList P ops Q rest (a.put N v) w') : wpList P ops Q (oi :: rest) a w := by
  refine wpList_plain hg fun K hK => ?_
  have he := enters_ hf hname hb (args ++ cs) w
  have hrun : (execOp a.eval oi).run P w = .ok (.enter f (args ++ cs)) w := by
    unfold execOp
    simp [hop, resolve, Deferred.ofValue, invoke, hx, hargs, he]
  unfold Oper.wp
  rw [hrun, Oper.upon_enter]
  refine h.mono fun e w'' hh => ?_
  obtain ⟨v, rfl, hk⟩ := hh
  subst hd
  exact hK _ _ hk
set_option maxHeartbeats 1000000 in
set_option maxRecDepth 100000 in
theorem every_calls (g : Nat) (U : List (List Int)) (N : List Int) (v : Adr) (w : World) (hs : U.length ≤ 12) (fv : Nat) (fn : Func) (cs : Array Value) (hf : Try.prog.funcs[fv]? = some fn) (hname : (fn.name == "runtime.NumGoroutine") = false) (hb : fn.body.isSome = true)
    (p : Nat → Nat → Bool) (J : Nat → World → Prop) (hV : ∀ i w', J i w' → View w' g U N v) (hD : ∀ i w' n, J i w' → J i (w'.drewN n)) (h0 : J 0 w)
    (step : ∀ a b : Nat, a < U.length → b < U.length → ∀ w', J (a * U.length + b) w' → Calls Try.prog fv (#[.int .i64 a, .int .i64 b] ++ cs) w' fun e w'' => e = .returned (.bool (p a b)) ∧ J (a * U.length + b + 1) w'') :
    Calls Try.prog 87 #[.pointer (some ⟨g, 0, none⟩), .func (.func fv) #[] cs] w fun e w' =>
      e = .returned (.bool (allN U.length fun a => allN U.length fun b => p a b)) ∧ ∃ i, J i w' ∧ ((allN U.length fun a => allN U.length fun b => p a b) = true → i = U.length * U.length) := by
  obtain ⟨r, hr⟩ : ∃ r, r = allN U.length fun a => allN U.length fun b => p a b := ⟨_, rfl⟩
  rw [← hr]
  have hu70 := Try.underlying70
  have HF := Aside0.mk hf
  have HNM := Aside0.mk hname
  have HBD := Aside0.mk hb
  have HV := Aside0.mk hV
  have HD := Aside0.mk hD
  have HJ0 := Aside0.mk h0
  have HST := Aside0.mk step
  have HR := Aside0.mk hr
  have hf0 := (hV 0 w h0).f0
  clear hf hname hb hV hD h0 step hr
  go_enter Try.func87, Try.ntmps87
  go_wp2_with fail
  go_loopg [12] (U.length + 1) (fun kq v12 W => ∃ i s : Nat, v12 = .int .i64 i ∧ Aside0 (i + kq = U.length + 1) ∧ Aside0 (i ≤ U.length) ∧ Aside0 (s = i * U.length) ∧ Aside0 (∀ a, a < i → ∀ b, b < U.length → p a b = true) ∧ Aside0 (J s W))
  case atStart => exact ⟨0, 0, rfl, ⟨by omega⟩, ⟨by omega⟩, ⟨by simp⟩, ⟨fun j hj => absurd hj (by omega)⟩, ⟨by first | exact HJ0.out | exact HD.out _ _ _ HJ0.out⟩⟩
  case round =>
    clear hf0
    obtain ⟨i, s, rfl, HK, HK2, HSI, HS, HJ⟩ := hrel
    have hf0 := (HV.out _ _ HJ.out).f0
    cases gk with
    | zero => exact absurd HK.out (by have := HK2.out; omega)
    | succ kn =>
    by_cases hlt : i < U.length
    · have hlt' : decide (i < U.length) = true := decide_eq_true hlt
      have HLT := Aside0.mk hlt
      clear hlt
      go_wp2_with fail
      go_loopg [20] (U.length + 1) (fun kq v20 W => ∃ j : Nat, v20 = .int .i64 j ∧ Aside0 (j + kq = U.length + 1) ∧ Aside0 (j ≤ U.length) ∧ Aside0 (∀ b, b < j → p i b = true) ∧ Aside0 (J (s + j) W))
      case atStart => exact ⟨0, rfl, ⟨by omega⟩, ⟨by omega⟩, ⟨fun j hj => absurd hj (by omega)⟩, ⟨by first | exact HJ.out | exact HD.out _ _ _ HJ.out⟩⟩
      case round =>
        clear hf0
        obtain ⟨j, rfl, HKj, HKj2, HSj, HJj⟩ := hrel
        cases gk with
        | zero => exact absurd HKj.out (by have := HKj2.out; omega)
        | succ kj =>
        by_cases hlj : j < U.length
        · have hlj' : decide (j < U.length) = true := decide_eq_true hlj
          have HLJ := Aside0.mk hlj
          clear hlj
          cases hp : p i j with
          | true =>
            have HP := Aside0.mk hp
            clear hp
            go_wp2_with (refine goesV_ (some 26) rfl rfl HF.out HNM.out HBD.out #[.int .i64 i, .int .i64 j] rfl rfl zq340 ?_; refine (HST.out i j HLT.out HLJ.out _ ?sJ).mono ?_; (case sJ => exact zq405); rintro e w1 ⟨he, hj⟩; rw [HP.out] at he; subst he; refine ⟨_, rfl, ?_⟩; have HJ1 := Aside0.mk hj; clear hj)
            go_roundg kj
            case measure => omega
            case rel => exact ⟨j + 1, by first | go_num | (rw [wrap_small (by omega) (by have := HLJ.out; omega)]; go_num), ⟨by have := HKj.out; omega⟩, ⟨by have := HLJ.out; omega⟩, ⟨fun b hb => by
              rcases Nat.lt_or_ge b j with h | h
              · exact HSj.out b h
              · obtain rfl : b = j := by omega
                exact HP.out⟩, ⟨by have h1 := HJ1.out; rw [← HSI.out, Nat.add_assoc] at h1; first | exact h1 | exact HD.out _ _ _ h1⟩⟩
          | false =>
            have HP := Aside0.mk hp
            clear hp
            have hrf : r = false := by
              rw [HR.out]
              exact allN_false.2 ⟨i, HLT.out, allN_false.2 ⟨j, HLJ.out, HP.out⟩⟩
            subst hrf
            go_wp2_with (refine goesV_ (some 26) rfl rfl HF.out HNM.out HBD.out #[.int .i64 i, .int .i64 j] rfl rfl zq340 ?_; refine (HST.out i j HLT.out HLJ.out _ ?sJ).mono ?_; (case sJ => exact zq405); rintro e w1 ⟨he, hj⟩; rw [HP.out] at he; subst he; refine ⟨_, rfl, ?_⟩; have HJ1 := Aside0.mk hj; clear hj)
            go_ret
            exact ⟨rfl, _, by first | exact HJ1.out | exact HD.out _ _ _ HJ1.out, fun h => by cases h⟩
        · have hlj' : decide (j < U.length) = false := decide_eq_false hlj
          obtain rfl : j = U.length := by have := HKj2.out; omega
          clear hlj
          go_wp2_with fail
          go_roundg kn
          case measure => omega
          case rel => exact ⟨i + 1, s + U.length, by first | go_num | (rw [wrap_small (by omega) (by have := HLT.out; omega)]; go_num), ⟨by have := HK.out; omega⟩, ⟨by have := HLT.out; omega⟩, ⟨by rw [Nat.succ_mul, HSI.out]⟩, ⟨fun a ha => by
            rcases Nat.lt_or_ge a i with h | h
            · exact HS.out a h
            · obtain rfl : a = i := by omega
              exact HSj.out⟩, ⟨by first | exact HJj.out | exact HD.out _ _ _ HJj.out⟩⟩
    · have hlt' : decide (i < U.length) = false := decide_eq_false hlt
      obtain rfl : i = U.length := by have := HK2.out; omega
      have hrt : r = true := by
        rw [HR.out, allN_iff]
        intro a ha
        exact allN_iff.2 (HS.out a ha)
      subst hrt
      clear hlt
      go_wp2_with fail
      go_ret
      have hj := HJ.out
      rw [HSI.out] at hj
      exact ⟨rfl, by first | exact hj | exact HD.out _ _ _ hj⟩
theorem every_pure (g : Nat) (U : List (List Int)) (N : List Int) (v : Adr) (w : World) (hs : U.length ≤ 12) (hV : View w g U N v) (fv : Nat) (fn : Func) (cs : Array Value) (hf : Try.prog.funcs[fv]? = some fn) (hname : (fn.name == "runtime.NumGoroutine") = false) (hb : fn.body.isSome = true)
    (p : Nat → Nat → Bool) (step : ∀ a b : Nat, a < U.length → b < U.length → ∀ W, Below w.heap.size w W → Calls Try.prog fv (#[.int .i64 a, .int .i64 b] ++ cs) W fun e w'' => e = .returned (.bool (p a b)) ∧ Below W.heap.size W w'') :
    Calls Try.prog 87 #[.pointer (some ⟨g, 0, none⟩), .func (.func fv) #[] cs] w fun e w' => e = .returned (.bool (allN U.length fun a => allN U.length fun b => p a b)) ∧ Below w.heap.size w w' := by
  refine (every_calls g U N v w hs fv fn cs hf hname hb p (fun _ W => Below w.heap.size w W) (fun _ W h => hV.below h) (fun _ W n h => pw_below_drewN h n) (Below.refl _ _) (fun a b ha hb' W hW => ?_)).mono ?_
  · refine (step a b ha hb' W hW).mono ?_
    rintro e w2 ⟨rfl, h2⟩
    exact ⟨rfl, below_step hW h2⟩
  · rintro e w2 ⟨rfl, i, h2, _⟩
    exact ⟨rfl, h2⟩
def filI (n : Nat) (p : Nat → Bool) : List Int := ((List.range n).filter p).map fun (a : Nat) => (a : Int)
theorem filI_succ (n : Nat) (p : Nat → Bool) : filI (n + 1) p = if p n = true then filI n p ++ [(n : Int)] else filI n p := by
  unfold filI
  rw [List.range_succ, List.filter_append, List.map_append]
  cases h : p n <;> simp [h]
theorem filI_length (n : Nat) (p : Nat → Bool) : (filI n p).length ≤ n := by
  unfold filI
  rw [List.length_map]
  exact Nat.le_trans (List.length_filter_le _ _) (by simp)
set_option maxHeartbeats 1000000 in
set_option maxRecDepth 100000 in
theorem all_calls (g : Nat) (U : List (List Int)) (N : List Int) (v : Adr) (w : World) (hs : U.length ≤ 12) (hV : View w g U N v) (fv : Nat) (fn : Func) (cs : Array Value) (hf : Try.prog.funcs[fv]? = some fn) (hname : (fn.name == "runtime.NumGoroutine") = false) (hb : fn.body.isSome = true)
    (p : Nat → Bool) (step : ∀ a : Nat, a < U.length → ∀ W, Below w.heap.size w W → Calls Try.prog fv (#[.int .i64 a] ++ cs) W fun e w'' => e = .returned (.bool (p a)) ∧ Below W.heap.size W w'') :
    Calls Try.prog 91 #[.pointer (some ⟨g, 0, none⟩), .func (.func fv) #[] cs] w fun e w' => ∃ v0, e = .returned v0 ∧ Kd.R (Kd.int .i64) 3 w' w.heap.size (fun _ => True) v0 (filI U.length p) ∧ Below w.heap.size w w' := by
  have hu70 := Try.underlying70
  have HF := Aside0.mk hf
  have HNM := Aside0.mk hname
  have HBD := Aside0.mk hb
  have HV := Aside0.mk hV
  have HST := Aside0.mk step
  have HB := Aside0.mk (Below.refl w.heap.size w)
  have hf0 := hV.f0
  clear hf hname hb hV step
  go_enter Try.func91, Try.ntmps91
  go_wp2_with (first | ((with_reducible refine gate_dst (N := 7) rfl ?_); refine Kd.R_lit (Kd.int .i64) _ 3 ?hg (N := 7) ?hd (xs := ([] : List Int)) (inner := []) (ok := fun _ => True) (okp := fun _ => True) ?hr ?hp (fun _ hk => hk) trivial (Below.refl _ _) (Nat.le_refl _) (by simp) ?_; (case hd => rfl); (case hg => rfl); (case hr => first | (go_simp; done) | (go_simp; rfl)); (case hp => exact (Reps.none _ _)); intro v496 w4 ho5 hb hg_ hnew_; clear hg_ hnew_; have HO := Aside0.mk ho5; have HB2 := Aside0.mk (below_step HB.out hb); have hf0' := (HV.out.below hb).f0; clear HB hf0 ho5 hb))
  go_loopg [5, 13] (U.length + 1) (fun kq v5 v13 W => ∃ i : Nat, v13 = .int .i64 i ∧ Aside0 (i + kq = U.length + 1) ∧ Aside0 (i ≤ U.length) ∧ Aside0 (Kd.R (Kd.int .i64) 3 W w.heap.size (fun _ => True) v5 (filI i p)) ∧ Aside0 (Below w.heap.size w W))
  case atStart => exact ⟨0, rfl, ⟨by omega⟩, ⟨by omega⟩, ⟨by (with_reducible repeat (first | apply Kd.R_alloc | apply Kd.R_drewN | apply Kd.R_drew)); exact HO.out⟩, ⟨by repeat (first | exact HB2.out | apply below_alloc | apply pw_below_drewN | apply below_drew1)⟩⟩
  case round =>
    clear hf0'
    obtain ⟨i, rfl, HK, HK2, HO1, HB1⟩ := hrel
    cases gk with
    | zero => exact absurd HK.out (by have := HK2.out; omega)
    | succ kn =>
    by_cases hlt : i < U.length
    · have hlt' : decide (i < U.length) = true := decide_eq_true hlt
      have HLT := Aside0.mk hlt
      clear hlt
      cases hp : p i with
      | true =>
        have HP := Aside0.mk hp
        clear hp
        go_wp2_with (first | (refine goesV_ (some 18) rfl rfl HF.out HNM.out HBD.out #[.int .i64 i] rfl rfl zq340 ?_; refine (HST.out i HLT.out _ ?sJ).mono ?_; (case sJ => exact zq327); rintro e w1 ⟨he, hj⟩; rw [HP.out] at he; subst he; refine ⟨_, rfl, ?_⟩; have HB3 := Aside0.mk (below_step zq327 hj); have HO3 := Aside0.mk (Kd.R_below zq386 hj); clear hj) | ((with_reducible refine gate_builtin (b := .append) (xs := #[.tmp 19, .tmp 21]) rfl ?_); at_builtin; refine Kd.R_append (Kd.int .i64) (w0 := w) w.heap.size rfl (.tmp 19) (.tmp 21) 28 3 (.int .i64 0) 8 rfl Try.underlying28 infoInt rfl (by decide) (by omega) u5 (filI i p) (i : Int) [.int .i64 i] (fun _ => True) (fun _ => False) rfl rfl ?aP (fun _ hk => hk.elim) ?aF ?aO ?aB ?aS ?aL ?_; (case aP => exact rfl); (case aB => exact zq365); (case aF => exact (fun _ _ => trivial)); (case aO => exact (by (with_reducible repeat (first | apply Kd.R_alloc | apply Kd.R_drewN | apply Kd.R_drew)); exact HO3.out)); (case aS => exact (below_size zq365)); (case aL => have := filI_length i p; have := HLT.out; omega); intro v5n w21 ho hb hg hat; have HB4 := Aside0.mk hb; have HO4 := Aside0.mk ho; clear ho hb hg hat))
        go_roundg kn
        case measure => omega
        case rel => exact ⟨i + 1, by first | go_num | (rw [wrap_small (by omega) (by have := HLT.out; omega)]; go_num), ⟨by have := HK.out; omega⟩, ⟨by have := HLT.out; omega⟩, ⟨by rw [filI_succ, if_pos HP.out]; (with_reducible repeat (first | apply Kd.R_alloc | apply Kd.R_drewN | apply Kd.R_drew)); exact HO4.out⟩, ⟨by repeat (first | exact HB4.out | apply below_alloc | apply pw_below_drewN | apply below_drew1)⟩⟩
      | false =>
        have HP := Aside0.mk hp
        clear hp
        go_wp2_with (refine goesV_ (some 18) rfl rfl HF.out HNM.out HBD.out #[.int .i64 i] rfl rfl zq340 ?_; refine (HST.out i HLT.out _ ?sJ).mono ?_; (case sJ => exact zq327); rintro e w1 ⟨he, hj⟩; rw [HP.out] at he; subst he; refine ⟨_, rfl, ?_⟩; have HB3 := Aside0.mk (below_step zq327 hj); have HO3 := Aside0.mk (Kd.R_below zq386 hj); clear hj)
        go_roundg kn
        case measure => omega
        case rel => exact ⟨i + 1, by first | go_num | (rw [wrap_small (by omega) (by have := HLT.out; omega)]; go_num), ⟨by have := HK.out; omega⟩, ⟨by have := HLT.out; omega⟩, ⟨by rw [filI_succ, if_neg (by rw [HP.out]; simp)]; (with_reducible repeat (first | apply Kd.R_alloc | apply Kd.R_drewN | apply Kd.R_drew)); exact HO3.out⟩, ⟨zq365⟩⟩
    · have hlt' : decide (i < U.length) = false := decide_eq_false hlt
      obtain rfl : i = U.length := by have := HK2.out; omega
      clear hlt
      go_wp2_with fail
      go_ret
      exact ⟨_, rfl, by (with_reducible repeat (first | apply Kd.R_alloc | apply Kd.R_drewN | apply Kd.R_drew)); exact HO1.out, by repeat (first | exact HB1.out | apply below_alloc | apply pw_below_drewN | apply below_drew1)⟩
theorem hiP_le {U : List (List Int)} {f : Nat → Nat} {a m : Nat} (h : ∀ b, f b ≤ m) : ∀ i, hiP U f a i ≤ m + 1
  | 0 => by unfold hiP; omega
  | i + 1 => by
    have := hiP_le h (U := U) (a := a) i
    have := h i
    unfold hiP
    split
    · split <;> omega
    · assumption
theorem hiF_le (U : List (List Int)) : ∀ k a, hiF U k a ≤ k
  | 0, _ => Nat.le_refl _
  | k + 1, a => hiP_le (fun b => hiF_le U k b) _
theorem hiP_congr {U : List (List Int)} {f f' : Nat → Nat} {a : Nat} : ∀ i, (∀ b, b < i → b ≠ a → leB U b a = true → f b = f' b) → hiP U f a i = hiP U f' a i
  |0,_=>rfl
  | i + 1, h => by
    have e:=hiP_congr i (fun b hb=>h b (by omega))
    unfold hiP
    by_cases c:i≠a∧leB U i a=true
    · rw [if_pos c,if_pos c,e,h i (by omega) c.1 c.2]
    · rw [if_neg c,if_neg c,e]
theorem hiP_none {U : List (List Int)} {f : Nat → Nat} {a : Nat} : ∀ i, (∀ b, b < i → b ≠ a → leB U b a = false) → hiP U f a i = 0
  |0,_=>rfl
  | i + 1, h => by
    unfold hiP
    rw [if_neg (fun c=>by rw [h i (by omega) c.1] at c;exact absurd c.2 (by simp))]
    exact hiP_none i (fun b hb=>h b (by omega))
def Deep (U : List (List Int)) : Nat → Nat → Prop
  | 0, a => ∀ b, b < U.length → b ≠ a → leB U b a = false
  | k + 1, a => ∀ b, b < U.length → b ≠ a → leB U b a = true → Deep U k b
set_option maxHeartbeats 1000000 in
set_option maxRecDepth 100000 in
theorem high_step (g : Nat) (U : List (List Int)) (N : List Int) (v : Adr) (w : World) (L : Logic U N) (hV : View w g U N v) (a : Nat) (ha : a < U.length) (f : Nat → Nat) (hf : ∀ b, f b ≤ 100)
    (ih: ∀b,b<U.length→b≠a→leB U b a=true→ ∀w',View w' g U N v→Calls Try.prog 86 #[.pointer (some ⟨g,0,none⟩),.int .i64 b] w' fun e w''=>e= .returned (.int .i64 (f b))∧Below w'.heap.size w' w''):
    Calls Try.prog 86 #[.pointer (some ⟨g,0,none⟩),.int .i64 a] w fun e w'=>e= .returned (.int .i64 (hiP U f a U.length))∧Below w.heap.size w w':=by
  have hu70:=Try.underlying70
  have HV:=Aside0.mk hV
  have HL:=Aside0.mk L
  have HF:=Aside0.mk hf
  have IH:=Aside0.mk ih
  have HA:=Aside0.mk ha
  have hf0:=hV.f0
  have HSM:=Aside0.mk L.small
  clear hV L hf ih ha
  go_enter Try.func86,Try.ntmps86
  go_wp2_with fail
  go_loopg [5,12] (U.length+1) (fun kq v5 v12 W=> ∃i:Nat,v12= .int .i64 i∧v5= .int .i64 (hiP U f a i)∧Aside0 (i+kq=U.length+1)∧Aside0 (i≤U.length)∧Aside0 (Below w.heap.size w W))
  case atStart=>exact⟨0,rfl,rfl,⟨by omega⟩,⟨by omega⟩,⟨zq397⟩⟩
  case round =>
    clear hf0
    obtain⟨i,rfl,rfl,HK,HK2,HB⟩:=hrel
    have HVr:=Aside0.mk (HV.out.below HB.out)
    have hf0:=HVr.out.f0
    cases gk with
    |zero=>exact absurd HK.out (by have:=HK2.out;omega)
    |succ kn=>
    by_cases hlt:i<U.length
    · have hlt' : decide (i < U.length) = true := decide_eq_true hlt
      have HLT:=Aside0.mk hlt
      have Ii:=Aside0.mk (show In U (i:Int) from ⟨by omega,by have:=HLT.out;omega⟩)
      have Ia:=Aside0.mk (show In U (a:Int) from ⟨by omega,by have:=HA.out;omega⟩)
      have k1:=HVr.out.u i Ii.out
      have k2:=HVr.out.u2 i a Ii.out Ia.out
      have v1:=HL.out.le_val Ii.out Ia.out
      simp only [Int.toNat_natCast] at k1 k2 v1
      rw [v1] at k2
      have ba:(a<U.length)=True:=eq_true HA.out
      have bi:(i<U.length)=True:=eq_true HLT.out
      clear v1 hlt
      by_cases hia:i=a
      · have ne : ((i : Int) != (a : Int)) = false := by simp [hia]
        have ne2:(i !=a)=false:=by simp [hia]
        have HP:=Aside0.mk (show hiP U f a (i+1)=hiP U f a i by rw [hiP];exact if_neg (fun c=>c.1 hia))
        clear hia k2
        go_wp2_with fail
        go_roundg kn
        case measure=>omega
        case rel=>exact⟨i+1,zq308,by rw [HP.out],⟨by have:=HK.out;omega⟩,⟨by have:=HLT.out;omega⟩,⟨zq268⟩⟩
      · have ne : ((i : Int) != (a : Int)) = true := by rw [bne_iff_ne]; omega
        have ne2:(i !=a)=true:=by rw [bne_iff_ne];exact hia
        have HNE:=Aside0.mk hia
        clear hia
        cases hle:leI U i a with
        | false =>
          have HP:=Aside0.mk (show hiP U f a (i+1)=hiP U f a i by rw [hiP];exact if_neg (fun c=>by have h2:=c.2;have h3:=hle;simp only [leI,Int.toNat_natCast] at h3;rw [h3] at h2;exact absurd h2 (by simp)))
          rw [hle] at k2
          clear hle
          go_wp2_with fail
          go_roundg kn
          case measure=>omega
          case rel=>exact⟨i+1,zq308,by rw [HP.out],⟨by have:=HK.out;omega⟩,⟨by have:=HLT.out;omega⟩,⟨zq268⟩⟩
        | true =>
          have HLE:=Aside0.mk (show leB U i a=true by have h3:=hle;simp only [leI,Int.toNat_natCast] at h3;exact h3)
          have HP:=Aside0.mk (show hiP U f a (i+1)=if hiP U f a i<f i+1 then f i+1 else hiP U f a i by rw [hiP];exact if_pos ⟨HNE.out,HLE.out⟩)
          obtain⟨x,hx⟩: ∃x,x=f i:=⟨_,rfl⟩
          obtain⟨y,hy⟩: ∃y,y=hiP U f a i:=⟨_,rfl⟩
          have HX:=Aside0.mk hx
          have HY:=Aside0.mk hy
          have hx1:x≤100:=by rw [hx];exact HF.out i
          have hxw:wrap64 ((x:Int)+1)=(x:Int)+1:=by unfold wrap64;omega
          rw [hle] at k2
          rw [← hy]
          clear hle hx hy
          by_cases hxy:y<x+1
          · have t1 : ((y : Int) < (x : Int) + 1) = True := eq_true (by omega)
            have HQ:=Aside0.mk (show hiP U f a (i+1)=x+1 by rw [HP.out,← HX.out,← HY.out,if_pos hxy])
            clear hxy
            go_wp2_with (go_at_call 86;(with_reducible refine(IH.out i HLT.out HNE.out HLE.out _ ?s1).mono ?_);(case s1=> exact zq381);rintro e w1 ⟨rfl,hb⟩;rw [← HX.out];have HB1:=Aside0.mk (below_step zq268 hb);clear hb)
            go_roundg kn
            case measure=>omega
            case rel=>exact⟨i+1,zq308,by rw [HQ.out];go_num,⟨by have:=HK.out;omega⟩,⟨by have:=HLT.out;omega⟩,⟨zq408⟩⟩
          · have t1 : ((y : Int) < (x : Int) + 1) = False := eq_false (by omega)
            have HQ:=Aside0.mk (show hiP U f a (i+1)=y by rw [HP.out,← HX.out,← HY.out,if_neg hxy])
            clear hxy
            go_wp2_with (go_at_call 86;(with_reducible refine(IH.out i HLT.out HNE.out HLE.out _ ?s1).mono ?_);(case s1=> exact zq381);rintro e w1 ⟨rfl,hb⟩;rw [← HX.out];have HB1:=Aside0.mk (below_step zq268 hb);clear hb)
            go_roundg kn
            case measure=>omega
            case rel=>exact⟨i+1,zq308,by rw [HQ.out],⟨by have:=HK.out;omega⟩,⟨by have:=HLT.out;omega⟩,⟨zq408⟩⟩
    · have hlt' : decide (i < U.length) = false := decide_eq_false hlt
      obtain rfl:i=U.length:=by have:=HK2.out;omega
      clear hlt
      go_wp2_with fail
      go_ret
      exact⟨rfl,zq268⟩
theorem high_calls (g : Nat) (U : List (List Int)) (N : List Int) (v : Adr) (L : Logic U N) : ∀ k, k ≤ 99 → ∀ a, a < U.length → Deep U k a → ∀ w, View w g U N v →
    Calls Try.prog 86 #[.pointer (some ⟨g,0,none⟩),.int .i64 a] w fun e w'=>e= .returned (.int .i64 (hiF U k a))∧Below w.heap.size w w'
  | 0, _, a, ha, hd, w, hV => by
    have:=high_step g U N v w L hV a ha (fun _=>0) (fun _=>by omega) (fun b hb hne hle=>by have:=hd b hb hne;rw [this] at hle;exact absurd hle (by simp))
    rw [hiP_none _ (fun b hb hne=>hd b hb hne)] at this
    exact this
  |k+1,hk,a,ha,hd,w,hV=>high_step g U N v w L hV a ha (hiF U k) (fun b=>Nat.le_trans (hiF_le U k b) (by omega)) (fun b hb hne hle w' hV'=>high_calls g U N v L k (by omega) b hb (hd b hb hne hle) w' hV')
theorem filt_lt {p q : Nat → Bool} : ∀ l : List Nat, (∀ x, x ∈ l → p x = true → q x = true) → (∃ x, x ∈ l ∧ q x = true ∧ p x = false) → (l.filter p).length < (l.filter q).length
  | [],_,⟨x,hx,_⟩=>absurd hx (by simp)
  | y :: l, h, ⟨x, hx, h1, h2⟩ => by
    have hle : ∀ l : List Nat, (∀ x, x ∈ l → p x = true → q x = true) → (l.filter p).length ≤ (l.filter q).length := by
      intro l
      induction l with
      |nil=>intro _;exact Nat.le_refl _
      | cons z l ih =>
        intro hh
        have:=ih fun x hx=>hh x (List.mem_cons_of_mem _ hx)
        cases hz:p z with
        |true=>simp [hz,hh z (by simp) hz];exact this
        |false=>cases hq:q z <;> simp [hz,hq] <;> omega
    have hl:=hle l fun x hx=>h x (List.mem_cons_of_mem _ hx)
    rcases List.mem_cons.1 hx with rfl|hx
    · simp [h1,h2];omega
    · have := filt_lt l (fun x hx => h x (List.mem_cons_of_mem _ hx)) ⟨x, hx, h1, h2⟩
      cases hz:p y with
      |true=>simp [hz,h y (by simp) hz];exact this
      |false=>cases hq:q y <;> simp [hz,hq] <;> omega
def cntB (U : List (List Int)) (a : Nat) : Nat := ((List.range U.length).filter fun b => !(b == a) && leB U b a).length
theorem cntB_lt {U : List (List Int)} (O : Order U) {a b : Nat} (ha : a < U.length) (hb : b < U.length) (hne : b ≠ a) (hle : leB U b a = true) : cntB U b < cntB U a := by
  refine filt_lt _ (fun x hx h=>?_) ⟨b,by simpa using hb,by simp [hne,hle],by simp⟩
  simp only [Bool.and_eq_true,Bool.not_eq_true',beq_eq_false_iff_ne] at h ⊢
  have hx':x<U.length:=by simpa using hx
  refine⟨fun e=>?_,O.trans x b a hx' hb ha h.2 hle⟩
  subst e
  exact h.1 (O.anti x b hx' hb h.2 hle)
theorem deep_cnt {U : List (List Int)} (O : Order U) : ∀ k a, a < U.length → cntB U a ≤ k → Deep U k a
  | 0, a, ha, h => fun b hb hne => by
    cases e:leB U b a with
    |false=>rfl
    |true=>have:=cntB_lt O ha hb hne e;omega
  |k+1,a,ha,h=>fun b hb hne hle=>deep_cnt O k b hb (by have:=cntB_lt O ha hb hne hle;omega)
theorem deep_all {U : List (List Int)} (O : Order U) {a : Nat} (ha : a < U.length) : Deep U U.length a :=
  deep_cnt O _ a ha (by unfold cntB; exact Nat.le_trans (List.length_filter_le _ _) (by simp))
def hiI (U : List (List Int)) (a : Int) : Int := (hiF U U.length a.toNat : Nat)
theorem high_in (g : Nat) (U : List (List Int)) (N : List Int) (v : Adr) (L : Logic U N) {a : Int} (ia : In U a) (w : World) (hV : View w g U N v) :
    Calls Try.prog 86 #[.pointer (some ⟨g,0,none⟩),.int .i64 a] w fun e w'=>e= .returned (.int .i64 (hiI U a))∧Below w.heap.size w w':=by
  obtain⟨x,rfl⟩: ∃x:Nat,a=x:=⟨a.toNat,by have:=ia.1;omega⟩
  have hx:x<U.length:=by have:=ia.2;omega
  exact high_calls g U N v L U.length (by have:=L.small;omega) x hx (deep_all L.toOrder hx) w hV
theorem spec_high_step {U : List (List Int)} (O : Order U) {a : Nat} (ha : a < U.length) {f : Nat → Nat} (hf : ∀ b, f b ≤ 100) (ih : ∀ b, b < U.length → b ≠ a → leB U b a = true → Ev (fun k => spec_l8High.f k U b) (f b : Int)) :
    Ev (fun k=>spec_l8High.f k U a) (hiP U f a U.length:Int):=by
  have hs:=O.small
  refine Ev.succ ?_
  simp only [spec_l8High.f]
  refine Ev.loop (g:=fun k s i=>spec_l8High.l0 k U a s i) U.length (fun i s=>s=(hiP U f a i:Int)) (by omega) (fun s h=>?_) (fun i s hi h=>?_) 0 (by simp [hiP])
  · subst h
    refine Ev.succ ?_
    simp only [spec_l8High.l0]
    repeat(first|((with_reducible refine Ev.ite_pos ?_ ?_);(first|assumption|(focus omega)|(focus (simp;done))))|((with_reducible refine Ev.ite_neg ?_ ?_);(first|assumption|(focus omega)|(focus (simp;done)))))
    exact Ev.now _
  · subst h
    refine⟨_,rfl,fun K=>Ev.succ ?_⟩
    have hrow:=O.row i hi
    have via:=O.val hi ha
    simp only [spec_l8High.l0,rdL_nat,rd_nat,rd_row,hrow,via]
    by_cases e:i=a
    · repeat (first | ((with_reducible refine Ev.ite_pos ?_ ?_); (first | assumption | (focus omega) | (focus (simp; done)))) | ((with_reducible refine Ev.ite_neg ?_ ?_); (first | assumption | (focus omega) | (focus (simp; done)))))
      rw [show hiP U f a (i+1)=hiP U f a i by rw [hiP];exact if_neg fun c=>c.1 e] at K
      exact K
    · repeat (first | ((with_reducible refine Ev.ite_pos ?_ ?_); (first | assumption | (focus omega) | (focus (simp; done)))) | ((with_reducible refine Ev.ite_neg ?_ ?_); (first | assumption | (focus omega) | (focus (simp; done)))))
      cases hle:leB U i a with
      | false =>
        repeat(first|((with_reducible refine Ev.ite_pos ?_ ?_);(first|assumption|(focus omega)|(focus (simp;done))))|((with_reducible refine Ev.ite_neg ?_ ?_);(first|assumption|(focus omega)|(focus (simp;done)))))
        rw [show hiP U f a (i+1)=hiP U f a i by rw [hiP];exact if_neg fun c=>by rw [hle] at c;exact absurd c.2 (by simp)] at K
        exact K
      | true =>
        repeat(first|((with_reducible refine Ev.ite_pos ?_ ?_);(first|assumption|(focus omega)|(focus (simp;done))))|((with_reducible refine Ev.ite_neg ?_ ?_);(first|assumption|(focus omega)|(focus (simp;done)))))
        refine Ev.bind (ih i hi e hle) ?_
        have hx1:=hf i
        have hx2:=hiP_le (U:=U) (a:=a) hf i
        rw [show wrap64 ((f i:Int)+1)=((f i+1:Nat):Int) by unfold wrap64;omega]
        rw [show hiP U f a (i+1)=if hiP U f a i<f i+1 then f i+1 else hiP U f a i by rw [hiP];exact if_pos ⟨e,hle⟩] at K
        rw [show mx (hiP U f a i:Int) ((f i+1:Nat):Int)=((if hiP U f a i<f i+1 then f i+1 else hiP U f a i:Nat):Int) by unfold mx;split <;> split <;> omega]
        exact K
theorem spec_l8High.ev {U : List (List Int)} (O : Order U) : ∀ k, k ≤ 99 → ∀ a, a < U.length → Deep U k a → Ev (fun m => spec_l8High.f m U a) (hiF U k a : Int)
  | 0, _, a, ha, hd => by
    have:=spec_high_step O ha (f:=fun _=>0) (fun _=>by omega) (fun b hb hne hle=>by have:=hd b hb hne;rw [this] at hle;exact absurd hle (by simp))
    rw [hiP_none _ (fun b hb hne=>hd b hb hne)] at this
    exact this
  |k+1,hk,a,ha,hd=>spec_high_step O ha (fun b=>Nat.le_trans (hiF_le U k b) (by omega)) (fun b hb hne hle=>spec_l8High.ev O k (by omega) b hb (hd b hb hne hle))
theorem spec_high_in {U : List (List Int)} (O : Order U) {a : Int} (ia : In U a) : Ev (fun m => spec_l8High.f m U a) (hiI U a) := by
  obtain⟨x,rfl⟩: ∃x:Nat,a=x:=⟨a.toNat,by have:=ia.1;omega⟩
  have hx:x<U.length:=by have:=ia.2;omega
  exact spec_l8High.ev O U.length (by have:=O.small;omega) x hx (deep_all O hx)
def hiL (U : List (List Int)) (n : Nat) : List Int := (List.range n).map fun (a : Nat) => hiI U (a : Int)
theorem hiL_succ (U : List (List Int)) (n : Nat) : hiL U (n + 1) = hiL U n ++ [hiI U (n : Int)] := by simp [hiL, List.range_succ]
theorem hiL_length (U : List (List Int)) (n : Nat) : (hiL U n).length = n := by simp [hiL]
theorem hiL_at {U : List (List Int)} {n : Nat} {a : Int} (h0 : 0 ≤ a) (h1 : a < n) : at1 (hiL U n) a.toNat = hiI U a := by
  have h2 : a.toNat < n := by omega
  have h3 : ((a.toNat : Nat) : Int) = a := by omega
  simp [at1, hiL, h2, h3]
def addT (U : List (List Int)) (a b : Int) : Bool := wrap64 (hiI U a + hiI U b) == wrap64 (hiI U (andI U a b) + hiI U (orI U a b))
def addB (U : List (List Int)) : Bool := allN U.length fun a => allN U.length fun b => addT U a b
theorem add_c1 (g : Nat) (U : List (List Int)) (N : List Int) (v : Adr) (w : World) (L : Logic U N) (hV : View w g U N v) (gH gG : Nat) (A : Option Addr) (cH : Nat) (hr : Kd.C (Kd.int .i64) w A U.length (hiL U U.length)) (a b : Int) (ia : In U a) (ib : In U b)
    (hH:w.heap[gH]? =some (.cells #[.slice A U.length cH] 28 (0,0))) (hG:w.heap[gG]? =some (.cells #[.pointer (some ⟨g,0,none⟩)] 64 (0,0))):
    Calls Try.prog 88 #[.int .i64 a,.int .i64 b,.pointer (some ⟨gH,0,none⟩),.pointer (some ⟨gG,0,none⟩)] w fun e w'=>e= .returned (.bool (addT U a b))∧Below w.heap.size w w':=by
  have hu70:=Try.underlying70
  have HV:=Aside0.mk hV
  have HLg:=Aside0.mk L
  have Ia:=Aside0.mk ia
  have Ib:=Aside0.mk ib
  obtain⟨ad,rfl,h_⟩:=ints_cell hr a ia.1 (by have:=ia.2;omega)
  clear h_
  have hcell_ : ∀ x, In U x → w.cell? (ad.add x.toNat) = some (.int .i64 (hiI U x)) := fun x hx => by
    obtain⟨ad',e',h2⟩:=ints_cell hr x hx.1 (by have:=hx.2;omega)
    cases e'
    rw [h2,hiL_at hx.1 hx.2]
  have x0:w.cell? ⟨gH,0,none⟩=some (.slice (some ad) U.length cH):=(blk_cell hH 0).trans rfl
  have x1:w.cell? ⟨gG,0,none⟩=some (.pointer (some ⟨g,0,none⟩)):=(blk_cell hG 0).trans rfl
  clear hV L ia ib hH hG hr
  have b0_:=eq_true Ia.out.1;have c0_:=eq_true Ia.out.2
  have b1_:=eq_true Ib.out.1;have c1_:=eq_true Ib.out.2
  have hf1_:=HV.out.f1
  have r3_:=HV.out.m a Ia.out
  have s4_:=HV.out.m2 a b Ia.out Ib.out
  have hf2_:=HV.out.f2
  have r6_:=HV.out.j a Ia.out
  have s7_:=HV.out.j2 a b Ia.out Ib.out
  have IN1_:=Aside0.mk (HLg.out.in_and Ia.out Ib.out)
  have b8_:=eq_true IN1_.out.1;have c8_:=eq_true IN1_.out.2
  have IN2_:=Aside0.mk (HLg.out.in_or Ia.out Ib.out)
  have b9_:=eq_true IN2_.out.1;have c9_:=eq_true IN2_.out.2
  have q1_:=hcell_ a Ia.out
  have q2_:=hcell_ b Ib.out
  have q3_:=hcell_ (andI U a b) IN1_.out
  have q4_:=hcell_ (orI U a b) IN2_.out
  clear hcell_
  unfold addT
  go_enter Try.func88,Try.ntmps88
  go_wp2_with fail
  go_quiet (fail)
  go_wp2
  go_ret
  exact⟨by first|rfl|(simp only [i64_w];rfl)|(show Ending.returned (Value.bool (IntKind.i64.wrap _==IntKind.i64.wrap _))=_;simp only [i64_w]),by repeat(first|exact Below.refl _ _|apply pw_below_drewN|apply below_drew1)⟩
def impl_AddsUpOk.T8 : Bool × List (List Nat × List Nat) := (true, [([], []), ([], []), ([], []), ([1, 2], [1, 2]), ([3], [3]), ([0, 4, 3], [0, 4]), ([5, 5, 0, 1, 2, 3, 4, 5], [5])])
def impl_AddsUpOk.B8 : List Nat := [0, 0, 0, 6, 14, 31, 63]
theorem impl_AddsUpOk.tab8 : rtab .any (opsOf Try.f36 8) = impl_AddsUpOk.T8 := by kernel_rfl
theorem impl_AddsUpOk.bits8 : waitsOk impl_AddsUpOk.T8.2 impl_AddsUpOk.B8 = true := by kernel_rfl
def impl_AddsUpOk.f (l0_0 : List (List Int)) (l0_1 : List Int) : Option (Bool) := some (if logicB l0_0 l0_1 = true then addB l0_0 else false)
set_option maxHeartbeats 4000000 in
set_option maxRecDepth 100000 in
theorem impl_AddsUpOk.calls (A0_0 : Option Addr) (c0_0 : Nat) (l0_0 : List (List Int)) (A0_1 : Option Addr) (c0_1 : Nat) (l0_1 : List Int) (r : Bool) (w : World) (hr0_0 : Kd.C (Kd.slice 3 (Kd.int .i64)) w A0_0 l0_0.length l0_0) (hc0_0 : l0_0.length ≤ c0_0) (hr0_1 : Kd.C (Kd.int .i64) w A0_1 l0_1.length l0_1) (hc0_1 : l0_1.length ≤ c0_1) (h : impl_AddsUpOk.f l0_0 l0_1 = some r) :
    Calls Try.prog 36 #[.agg #[.slice A0_0 l0_0.length c0_0,.slice A0_1 l0_1.length c0_1]] w fun e w'=>e= .returned (.bool r)∧Below w.heap.size w w':=by
  obtain⟨k,hF⟩:=told_facts l0_0
  have hu30:=Try.underlying30
  have hu70:=Try.underlying70
  have HF:=Aside0.mk hF
  have HR0:=Aside0.mk hr0_0
  have HC0:=Aside0.mk hc0_0
  have HR1:=Aside0.mk hr0_1
  have HC1:=Aside0.mk hc0_1
  simp only [impl_AddsUpOk.f,Option.some.injEq] at h
  clear hr0_0 hc0_0 hr0_1 hc0_1 hF
  cases hL:logicB l0_0 l0_1 with
  | false =>
    rw [hL] at h
    have hr_:false=r:=by simpa using h
    subst hr_
    have HLB:=Aside0.mk hL
    clear h hL
    go_enter Try.func36,Try.ntmps36
    go_wp2_with (first|((with_reducible refine gate_dst (N:=1) rfl ?_);refine box_event ?hg (N:=1) ?hd (cs:= #[.slice A0_0 l0_0.length c0_0,.slice A0_1 l0_1.length c0_1]) (t:=30) ?hr ?_;(case hd=>rfl);(case hg=>rfl);(case hr=>first|(go_simp;done)|(go_simp;rfl));intro gb hg_ w1 hbox hb;have HB:=Aside0.mk hb;have hx0:w1.cell? ⟨gb,0,none⟩=some (.slice A0_0 l0_0.length c0_0):=(blk_cell hbox 0).trans rfl;have hx1:w1.cell? ⟨gb,1,none⟩=some (.slice A0_1 l0_1.length c0_1):=(blk_cell hbox 1).trans rfl;have HX:=Aside0.mk hbox;clear hbox hb hg_)|(go_at_call 77;(with_reducible refine(told_n k _ _ l0_0 _ _ l0_1 _ ?s1 ?s2 ?s3 ?s4 HF.out HLB.out).mono ?_);(case s1=>exact Kd.C_below HR0.out HB.out);(case s2=>exact HC0.out);(case s3=>exact Kd.C_below HR1.out HB.out);(case s4=>exact HC1.out);rintro e w2 ⟨rfl,hb⟩;have HB2:=Aside0.mk (below_step HB.out hb);clear hb hx0 hx1 HX HB))
    go_ret
    exact⟨rfl,zq116⟩
  | true =>
    rw [hL] at h
    have hr_:addB l0_0=r:=by simpa using h
    subst hr_
    have HLB:=Aside0.mk hL
    have HLg:=Aside0.mk (logicB_iff.1 hL)
    have HSM:=Aside0.mk (logicB_iff.1 hL).small
    clear h hL
    go_enter Try.func36,Try.ntmps36
    go_wp2_with (first|((with_reducible refine gate_dst (N:=1) rfl ?_);refine box_event ?hg (N:=1) ?hd (cs:= #[.slice A0_0 l0_0.length c0_0,.slice A0_1 l0_1.length c0_1]) (t:=30) ?hr ?_;(case hd=>rfl);(case hg=>rfl);(case hr=>first|(go_simp;done)|(go_simp;rfl));intro gb hg_ w1 hbox hb;have HB:=Aside0.mk hb;have hx0:w1.cell? ⟨gb,0,none⟩=some (.slice A0_0 l0_0.length c0_0):=(blk_cell hbox 0).trans rfl;have hx1:w1.cell? ⟨gb,1,none⟩=some (.slice A0_1 l0_1.length c0_1):=(blk_cell hbox 1).trans rfl;have HX:=Aside0.mk hbox;clear hbox hb hg_)|(go_at_call 77;(with_reducible refine(told_y k _ _ l0_0 _ _ l0_1 _ ?s1 ?s2 ?s3 ?s4 HF.out HLB.out).mono ?_);(case s1=>exact Kd.C_below HR0.out HB.out);(case s2=>exact HC0.out);(case s3=>exact Kd.C_below HR1.out HB.out);(case s4=>exact HC1.out);rintro e w2 ⟨g,v,rfl,hv,hge,hb⟩;have HB2:=Aside0.mk (below_step HB.out hb);have HV:=Aside0.mk hv;clear hv hge hb hx0 hx1 HX HB)|((with_reducible refine gate_dst (N:=10) rfl ?_);refine Kd.R_lit (Kd.int .i64) _ 3 ?hg2 (N:=10) ?hd2 (xs:=([]:List Int)) (inner:= []) (ok:=fun _=>True) (okp:=fun _=>True) ?hr2 ?hp2 (fun _ hk=>hk) trivial (Below.refl _ _) (Nat.le_refl _) (by simp) ?_;(case hd2=>rfl);(case hg2=>rfl);(case hr2=>first|(go_simp;done)|(go_simp;rfl));(case hp2=>exact(Reps.none _ _));intro vH0 wl ho5 hb hg_ hnew_;obtain⟨AH0,cH0,rfl⟩:=Kd.R_slice ho5;clear hg_ hnew_;have HBX:=Aside0.mk (below_step (below_alloc (Below.refl w2.heap.size w2) _) hb);have HG:=Aside0.mk (blk_below (MapKept.heap_alloc w2 _).1 hb);have HO:=Aside0.mk (Kd.R_lower ho5 (below_size (below_alloc (Below.refl w2.heap.size w2) _)));have hf0:=(HV.out.below (below_alloc HBX.out (.cells #[.slice AH0 0 cH0] 28))).f0;have hb0:(wl.alloc (.cells #[.slice AH0 0 cH0] 28)).cell? ⟨w2.heap.size,0,none⟩=some (.pointer (some ⟨g,0,none⟩)):=(blk_cell (blk_alloc HG.out _) 0).trans rfl;clear ho5 hb))
    have HGE:=Aside0.mk (show w2.heap.size≤wl.heap.size from below_size HBX.out)
    have HNE:=Aside0.mk (show wl.heap.size≠w2.heap.size by have:=blk_lt HG.out;omega)
    have HH:=Aside0.mk (show (wl.alloc (.cells #[.slice AH0 ([]:List Int).length cH0] 28)).heap[wl.heap.size]? =some (.cells #[.slice AH0 ([]:List Int).length cH0] 28 (0,0)) from (MapKept.heap_alloc wl _).1)
    go_loopg [16] (l0_0.length+1) (fun kq v16 W=> ∃(i:Nat) (AH:Option Addr) (cH:Nat),v16= .int .i64 i∧Aside0 (i+kq=l0_0.length+1)∧Aside0 (i≤l0_0.length)∧Aside0 (W.heap[wl.heap.size]? =some (.cells #[.slice AH (hiL l0_0 i).length cH] 28 (0,0)))∧Aside0 (Kd.R (Kd.int .i64) 3 W w2.heap.size (fun _=>True) (.slice AH (hiL l0_0 i).length cH) (hiL l0_0 i))∧Aside0 (W.heap[w2.heap.size]? =some (.cells #[.pointer (some ⟨g,0,none⟩)] 64 (0,0)))∧Aside0 (Below w2.heap.size w2 W))
    case atStart=>exact⟨0,AH0,cH0,rfl,⟨by omega⟩,⟨by omega⟩,HH,⟨Kd.R_alloc HO.out _⟩,⟨blk_alloc HG.out _⟩,⟨below_alloc HBX.out _⟩⟩
    case round =>
      clear hf0 hb0
      obtain⟨i,AH,cH,rfl,HK,HK2,HHr,HOr,HGr,HBr⟩:=hrel
      have hf0:=(HV.out.below HBr.out).f0
      have hb0:wr.cell? ⟨w2.heap.size,0,none⟩=some (.pointer (some ⟨g,0,none⟩)):=(blk_cell HGr.out 0).trans rfl
      cases gk with
      |zero=>exact absurd HK.out (by have:=HK2.out;omega)
      |succ kn=>
      by_cases hlt:i<l0_0.length
      · have hlt' : decide (i < l0_0.length) = true := decide_eq_true hlt
        have HLT:=Aside0.mk hlt
        clear hlt
        go_wp2_with fail
        refine start_ (n:=7) (S:=(fun w'=>w'.cell? ⟨wl.heap.size,0,none⟩=some (.slice AH (hiL l0_0 i).length cH)∧w'.cell? ⟨w2.heap.size,0,none⟩=some (.pointer (some ⟨g,0,none⟩)))) (ds:= [6]) (zqb 7 0) (by kernel_rfl) rfl rfl ⟨(blk_cell (blk_drew HHr.out) 0).trans rfl,(blk_cell (blk_drew HGr.out) 0).trans rfl⟩ (fun hHeld=>?_)
        refine with_tabW impl_AddsUpOk.tab8 impl_AddsUpOk.bits8 (fun HT_ HW_=>?_)
        generalize hwd:wr.drew=wd at hHeld ⊢
        have HBd:=Aside0.mk (show Below w2.heap.size w2 wd from hwd ▸ below_drew1 HBr.out)
        replace HHr:=Aside0.mk (hwd ▸ blk_drew HHr.out)
        replace HGr:=Aside0.mk (hwd ▸ blk_drew HGr.out)
        replace HOr:=Aside0.mk (hwd ▸ Kd.R_drew HOr.out)
        clear hwd HBr
        refine take_ (i:=0) (N:=some 19) (v:=?_) (a':=?_) (zqb 7 1) rfl rfl (take_ofW HT_.out HW_.out (by kernel_rfl)) (fun _ _ _ h=>h) (Or.inl ⟨by rfl,?_⟩) hHeld ?_ ?_
        rotate_left
        · rintro w' ⟨s0,s1⟩;go_simp;with_reducible rfl
        rotate_left
        · simp only [Act.put,List.setIfInBounds_toArray,List.set_cons_zero,List.set_cons_succ,i64_w,i32_w];rfl
        refine take_ (i:=1) (N:=some 20) (v:=?_) (a':=?_) (zqb 7 3) rfl rfl (take_ofW HT_.out HW_.out (by kernel_rfl)) (fun _ _ _ h=>h) (Or.inl ⟨by rfl,?_⟩) hHeld ?_ ?_
        rotate_left
        · rintro w' ⟨s0,s1⟩;go_simp;with_reducible rfl
        rotate_left
        · simp only [Act.put,List.setIfInBounds_toArray,List.set_cons_zero,List.set_cons_succ,i64_w,i32_w];rfl
        refine pure_ (i:=2) (N:=some 21) (v:=?_) (a':=?_) (zqb 7 7) rfl rfl (any_of HT_.out (by kernel_rfl)) (fun _ _ _ h=>h) (Or.inl ⟨by rfl,?_⟩) ?_ ?_
        rotate_left
        · intro w';go_simp;with_reducible rfl
        rotate_left
        · simp only [Act.put,List.setIfInBounds_toArray,List.set_cons_zero,List.set_cons_succ,i64_w,i32_w];rfl
        refine one_ (i:=3) (N:=some 22) (zqb 7 15) rfl rfl (one_of HT_.out (by kernel_rfl)) (by decide) (fun K hK=>?_)
        refine goes_ Try.func86 (by kernel_rfl) rfl #[.pointer (some ⟨g,0,none⟩),.int .i64 i] (by rfl) rfl rfl zq324 ?_
        refine(high_in g l0_0 l0_1 v HLg.out (a:=(i:Int)) ⟨by omega,by have:=HLT.out;omega⟩ wd (HV.out.below HBd.out)).mono ?_
        rintro e w4 ⟨rfl,hb⟩
        refine⟨_,rfl,?_⟩
        have HH4:=Aside0.mk (blk_below HHr.out hb)
        have HG4:=Aside0.mk (blk_below HGr.out hb)
        have HO4:=Aside0.mk (Kd.R_below HOr.out hb)
        have HB4:=Aside0.mk (below_step HBd.out hb)
        refine hK.out _ _ ⟨(blk_cell HH4.out 0).trans rfl,(blk_cell HG4.out 0).trans rfl⟩ (fun hHeld4=>?_)
        clear hK K hb HHr HGr HOr HBd
        (try simp only [Act.put,List.setIfInBounds_toArray,List.set_cons_zero,List.set_cons_succ])
        refine one_ (i:=4) (N:=some 23) (zqb 7 31) rfl rfl (one_of HT_.out (by kernel_rfl)) (by decide) (fun K hK=>?_)
        refine event_step (w1:=World.alloc w4 (.cells #[.int .i64 (hiI l0_0 i)] 3)) (v:= .slice (some ⟨w4.heap.size,0,none⟩) 1 1) (by rfl) ?hr1 ?_
        case hr1=>first|(go_simp;done)|(go_simp;rfl)
        refine hK.out _ _ ⟨(blk_cell (blk_alloc HH4.out _) 0).trans rfl,(blk_cell (blk_alloc HG4.out _) 0).trans rfl⟩ (fun hHeld5=>?_)
        clear hK K
        (try simp only [Act.put,List.setIfInBounds_toArray,List.set_cons_zero,List.set_cons_succ])
        refine one_ (i:=5) (N:=some 24) (zqb 7 63) rfl rfl (one_of HT_.out (by kernel_rfl)) (by decide) (fun K hK=>?_)
        refine Kd.R_append_step (Kd.int .i64) (w0:=w2) w2.heap.size (by rfl) (.tmp 19) (.tmp 23) 28 3 (.int .i64 0) 8 rfl Try.underlying28 infoInt rfl (by decide) (by omega) (.slice AH (hiL l0_0 i).length cH) (hiL l0_0 i) (hiI l0_0 i) [.int .i64 (hiI l0_0 i)] (fun _=>True) (fun _=>False) rfl rfl rfl (fun _ hk=>hk.elim) (fun _ _=>trivial) HO4.out HB4.out (below_size HB4.out) (by have:=HLT.out;have:=HSM.out;rw [hiL_length];omega) ?_
        intro v5 w5 ho hb hg hat
        rw [← hiL_succ] at ho
        obtain⟨A5,c5,rfl⟩:=Kd.R_slice ho
        have HH5:=Aside0.mk (blk_grown (g:=wl.heap.size) (o:= .cells #[.slice AH (hiL l0_0 i).length cH] 28 (0,0)) HH4.out hg (Kd.R_ne HO4.out HH4.out (by decide)))
        have HG5:=Aside0.mk (blk_grown (g:=w2.heap.size) (o:= .cells #[.pointer (some ⟨g,0,none⟩)] 64 (0,0)) HG4.out hg (Kd.R_ne HO4.out HG4.out (by decide)))
        have HO5:=Aside0.mk ho
        have HB5:=Aside0.mk hb
        refine hK.out _ _ ⟨(blk_cell HH5.out 0).trans rfl,(blk_cell HG5.out 0).trans rfl⟩ (fun hHeld6=>?_)
        clear hK K ho hb hg hat HH4 HG4 HO4 HB4
        (try simp only [Act.put,List.setIfInBounds_toArray,List.set_cons_zero,List.set_cons_succ])
        have hs_:w5.cell? ⟨wl.heap.size,0,none⟩=some (.slice AH (hiL l0_0 i).length cH):=(blk_cell HH5.out 0).trans rfl
        have hf_:=blk_frozen HH5.out 0
        refine last_ (i:=6) (N:=none) (zqb 7 127) rfl rfl (one_of HT_.out (by kernel_rfl)) (by decide) (fun K hK=>?_)
        refine skip_ (w1:=w5.setCell ⟨wl.heap.size,0,none⟩ (.slice A5 (hiL l0_0 (i+1)).length c5)) (by rfl) rfl ?_ ?_
        · go_simp
        refine hK.out _ _ ?_
        clear hK K
        have HH7:=Aside0.mk (one_setCell (u:= .slice A5 (hiL l0_0 (i+1)).length c5) HH5.out)
        have HO7:=Aside0.mk (Kd.R_set HO5.out HH5.out (by decide) 0 (.slice A5 (hiL l0_0 (i+1)).length c5))
        have HG7:=Aside0.mk (blk_far HG5.out (p:=⟨wl.heap.size,0,none⟩) HNE.out.symm (.slice A5 (hiL l0_0 (i+1)).length c5))
        have HB7:=Aside0.mk (below_set (j:=0) (v:= .slice A5 (hiL l0_0 (i+1)).length c5) HB5.out HGE.out)
        generalize w5.setCell ⟨wl.heap.size,0,none⟩ (.slice A5 (hiL l0_0 (i+1)).length c5)=w7 at HH7 HO7 HG7 HB7 ⊢
        clear hs_ hf_ HH5 HG5 HO5 HB5
        refine done_ (done_of HT_.out (by kernel_rfl)) ?_
        go_wp2
        go_roundg kn
        case measure=>omega
        case rel=>exact⟨i+1,A5,c5,zq308,⟨by have:=HK.out;omega⟩,⟨by have:=HLT.out;omega⟩,HH7,HO7,HG7,HB7⟩
      · have hlt' : decide (i < l0_0.length) = false := decide_eq_false hlt
        obtain rfl:i=l0_0.length:=by have:=HK2.out;omega
        clear hlt
        have HC:=Aside0.mk (Kd.R_reads' HOr.out).2.2
        have HHe:=HHr
        rw [hiL_length] at HC HHe
        go_wp2_with (go_at_call 87;(with_reducible refine(every_pure g l0_0 l0_1 v wr HSM.out (HV.out.below HBr.out) 88 _ #[.pointer (some ⟨wl.heap.size,0,none⟩),.pointer (some ⟨w2.heap.size,0,none⟩)] Try.func88 (by kernel_rfl) rfl (fun a b=>addT l0_0 a b) ?sT).mono ?_);(case sT=>exact fun a b ha hb W hW=>add_c1 g l0_0 l0_1 v W HLg.out ((HV.out.below HBr.out).below hW) wl.heap.size w2.heap.size AH cH (Kd.C_below HC.out hW) a b ⟨by omega,by omega⟩ ⟨by omega,by omega⟩ (blk_below HHe.out hW) (blk_below HGr.out hW));rintro e w8 ⟨rfl,hb⟩;have HB8:=Aside0.mk (below_step (below_step HB2.out HBr.out) hb);clear hb)
        go_ret
        exact⟨rfl,zq426⟩
theorem natcast_beq (x y : Nat) : ((x : Int) == (y : Int)) = (x == y) := by rw [Bool.eq_iff_iff, beq_iff_eq, beq_iff_eq]; constructor <;> intro h <;> omega
theorem filI_all (n : Nat) (p : Nat → Bool) : ((filI n p).length == n) = allN n p := by
  rw [Bool.eq_iff_iff,beq_iff_eq,allN_iff]
  unfold filI
  rw [List.length_map]
  constructor
  · intro h i hi
    have h2:((List.range n).filter p).length=(List.range n).length:=by rw [h];simp
    have:=List.length_filter_eq_length_iff.1 h2 i (by simpa using hi)
    exact this
  · intro h
    rw [List.filter_eq_self.2 (fun i hi=>h i (by simpa using hi))]
    simp
def modT (U : List (List Int)) (a b c : Int) : Bool := orI U a (andI U b c) == andI U c (orI U a b)
def modB (U : List (List Int)) : Bool := allN U.length fun a => allN U.length fun c => !leI U a c || allN U.length fun b => modT U a b c
theorem mod_c2 (g : Nat) (U : List (List Int)) (N : List Int) (v : Adr) (w : World) (L : Logic U N) (hV : View w g U N v) (gG gA gC : Nat) (a b c : Int) (ia : In U a) (ib : In U b) (ic : In U c)
    (hG:w.heap[gG]? =some (.cells #[.pointer (some ⟨g,0,none⟩)] 64 (0,0))) (hA:w.heap[gA]? =some (.cells #[.int .i64 a] 3 (0,0))) (hC:w.heap[gC]? =some (.cells #[.int .i64 c] 3 (0,0))):
    Calls Try.prog 92 #[.int .i64 b,.pointer (some ⟨gG,0,none⟩),.pointer (some ⟨gA,0,none⟩),.pointer (some ⟨gC,0,none⟩)] w fun e w'=>e= .returned (.bool (modT U a b c))∧Below w.heap.size w w':=by
  have hu70:=Try.underlying70
  have HV:=Aside0.mk hV
  have HLg:=Aside0.mk L
  have Ia:=Aside0.mk ia
  have Ib:=Aside0.mk ib
  have Ic:=Aside0.mk ic
  have x0:w.cell? ⟨gG,0,none⟩=some (.pointer (some ⟨g,0,none⟩)):=(blk_cell hG 0).trans rfl
  have x1:w.cell? ⟨gA,0,none⟩=some (.int .i64 a):=(blk_cell hA 0).trans rfl
  have x2:w.cell? ⟨gC,0,none⟩=some (.int .i64 c):=(blk_cell hC 0).trans rfl
  clear hV L ia ib ic hG hA hC
  have b0_:=eq_true Ib.out.1;have c0_:=eq_true Ib.out.2
  have b1_:=eq_true Ic.out.1;have c1_:=eq_true Ic.out.2
  have hf1_:=HV.out.f1
  have r3_:=HV.out.m b Ib.out
  have s4_:=HV.out.m2 b c Ib.out Ic.out
  have b5_:=eq_true Ia.out.1;have c5_:=eq_true Ia.out.2
  have IN1_:=Aside0.mk (HLg.out.in_and Ib.out Ic.out)
  have b6_:=eq_true IN1_.out.1;have c6_:=eq_true IN1_.out.2
  have hf2_:=HV.out.f2
  have r8_:=HV.out.j a Ia.out
  have s9_:=HV.out.j2 a (andI U b c) Ia.out IN1_.out
  have s10_:=HV.out.j2 a b Ia.out Ib.out
  have IN2_:=Aside0.mk (HLg.out.in_or Ia.out Ib.out)
  have b11_:=eq_true IN2_.out.1;have c11_:=eq_true IN2_.out.2
  have r12_:=HV.out.m c Ic.out
  have s13_:=HV.out.m2 c (orI U a b) Ic.out IN2_.out
  unfold modT
  go_enter Try.func92,Try.ntmps92
  go_wp2_with fail
  go_quiet (fail)
  go_wp2
  go_ret
  exact⟨rfl,by repeat(first|exact Below.refl _ _|apply pw_below_drewN|apply below_drew1)⟩
def mod_c1.T1 : Bool × List (List Nat × List Nat) := (true, [([], []), ([0], [0]), ([1], [1]), ([2], [2]), ([], []), ([3, 4], [3, 4]), ([5], [5]), ([], []), ([6, 7], [6, 7]), ([8], [8]), ([9], [9]), ([10], [10]), ([11], [11]), ([11], [11]), ([12, 13, 11, 11], [11, 12, 13]), ([14, 11], [11, 14]), ([11], [11]), ([16, 11], [11, 16]), ([17, 11], [11, 17]), ([18, 11], [11, 18]), ([19, 11], [11, 19]), ([15, 20, 11], [11, 15, 20]), ([11, 21], [11, 21]), ([22, 14, 0, 1, 2, 3, 4, 5, 6, 7, 8, 9, 10, 11, 12, 13, 14, 15, 16, 17, 18, 19, 20, 21, 22], [22])])
def mod_c1.B1 : List Nat := [0, 1, 3, 7, 0, 31, 63, 0, 255, 511, 1023, 2047, 4095, 4095, 16383, 32767, 4095, 69631, 200703, 462847, 987135, 2097151, 4194303, 8388607]
theorem mod_c1.tab1 : rtab .any (opsOf Try.f90 1) = mod_c1.T1 := by kernel_rfl
theorem mod_c1.bits1 : waitsOk mod_c1.T1.2 mod_c1.B1 = true := by kernel_rfl
set_option maxHeartbeats 4000000 in
set_option maxRecDepth 100000 in
theorem mod_c1 (g : Nat) (U : List (List Int)) (N : List Int) (v : Adr) (w : World) (L : Logic U N) (hV : View w g U N v) (gG : Nat) (a c : Int) (ia : In U a) (ic : In U c) (hG : w.heap[gG]? = some (.cells #[.pointer (some ⟨g, 0, none⟩)] 64 (0, 0))) :
    Calls Try.prog 90 #[.int .i64 a,.int .i64 c,.pointer (some ⟨gG,0,none⟩)] w fun e w'=>e= .returned (.bool (!leI U a c||allN U.length fun b=>modT U a b c))∧Below w.heap.size w w':=by
  have hu70:=Try.underlying70
  have HV:=Aside0.mk hV
  have HLg:=Aside0.mk L
  have Ia:=Aside0.mk ia
  have Ic:=Aside0.mk ic
  have HG:=Aside0.mk hG
  have b1:=eq_true ia.1
  have b2:=eq_true ia.2
  have b3:=eq_true ic.1
  have b4:=eq_true ic.2
  have v1:=L.le_val ia ic
  clear hV L ia ic hG
  cases hle:leI U a c with
  | false =>
    rw [hle] at v1
    clear hle
    go_enter Try.func90,Try.ntmps90
    go_wp2_with (first|((with_reducible refine gate_dst (N:=3) rfl ?_);refine box_event ?hg (N:=3) ?hd (cs:= #[.int .i64 a]) (t:=3) ?hr ?_;(case hd=>rfl);(case hg=>rfl);(case hr=>first|(go_simp;done)|(go_simp;rfl));intro gA hg_ w1 hbox hb;have HXA:=Aside0.mk hbox;have HB1:=Aside0.mk hb;have HG1:=Aside0.mk (blk_below HG.out hb);have HV1:=Aside0.mk (HV.out.below hb);clear hbox hb hg_)|((with_reducible refine gate_dst (N:=4) rfl ?_);refine box_event ?hg (N:=4) ?hd (cs:= #[.int .i64 c]) (t:=3) ?hr ?_;(case hd=>rfl);(case hg=>rfl);(case hr=>first|(go_simp;done)|(go_simp;rfl));intro gC hg_ w2 hbox hb;have HXC:=Aside0.mk hbox;have HB2:=Aside0.mk (below_step HB1.out hb);have HXA2:=Aside0.mk (blk_below HXA.out hb);have HG2:=Aside0.mk (blk_below HG1.out hb);have HV2:=Aside0.mk (HV1.out.below hb);clear HB1 HXA HG1 HV1;clear hbox hb hg_))
    have hcell_: ∀ {W:World},View W g U N v→W.cell? ((v.rU a.toNat).add c.toNat)=some (.int .i64 0):=fun h=>by have h2:=h.u2 a c Ia.out Ic.out;rw [v1] at h2;exact h2
    have y0:w2.cell? ⟨gG,0,none⟩=some (.pointer (some ⟨g,0,none⟩)):=(blk_cell HG2.out 0).trans rfl
    have y1:w2.cell? ⟨gA,0,none⟩=some (.int .i64 a):=(blk_cell HXA2.out 0).trans rfl
    have y2:w2.cell? ⟨gC,0,none⟩=some (.int .i64 c):=(blk_cell HXC.out 0).trans rfl
    have y3:=HV2.out.f0
    have y4:=HV2.out.u a Ia.out
    have y5:=hcell_ HV2.out
    clear v1 hcell_
    go_quiet (fail)
    go_wp2
    go_ret
    exact⟨rfl,zq303⟩
  | true =>
    rw [hle] at v1
    clear hle
    rw [← filI_all]
    go_enter Try.func90,Try.ntmps90
    go_wp2_with (first|((with_reducible refine gate_dst (N:=3) rfl ?_);refine box_event ?hg (N:=3) ?hd (cs:= #[.int .i64 a]) (t:=3) ?hr ?_;(case hd=>rfl);(case hg=>rfl);(case hr=>first|(go_simp;done)|(go_simp;rfl));intro gA hg_ w1 hbox hb;have HXA:=Aside0.mk hbox;have HB1:=Aside0.mk hb;have HG1:=Aside0.mk (blk_below HG.out hb);have HV1:=Aside0.mk (HV.out.below hb);clear hbox hb hg_)|((with_reducible refine gate_dst (N:=4) rfl ?_);refine box_event ?hg (N:=4) ?hd (cs:= #[.int .i64 c]) (t:=3) ?hr ?_;(case hd=>rfl);(case hg=>rfl);(case hr=>first|(go_simp;done)|(go_simp;rfl));intro gC hg_ w2 hbox hb;have HXC:=Aside0.mk hbox;have HB2:=Aside0.mk (below_step HB1.out hb);have HXA2:=Aside0.mk (blk_below HXA.out hb);have HG2:=Aside0.mk (blk_below HG1.out hb);have HV2:=Aside0.mk (HV1.out.below hb);clear HB1 HXA HG1 HV1;clear hbox hb hg_))
    have hcell_: ∀ {W:World},View W g U N v→W.cell? ((v.rU a.toNat).add c.toNat)=some (.int .i64 1):=fun h=>by have h2:=h.u2 a c Ia.out Ic.out;rw [v1] at h2;exact h2
    refine start_ (n:=24) (S:=(fun w'=>w'.cell? ⟨gG,0,none⟩=some (.pointer (some ⟨g,0,none⟩))∧w'.cell? ⟨gA,0,none⟩=some (.int .i64 a)∧w'.cell? ⟨gC,0,none⟩=some (.int .i64 c)∧w'.cell? ⟨g,0,none⟩=some (.slice (some v.aU) U.length v.cU)∧w'.cell? (v.aU.add a.toNat)=some (.slice (some (v.rU a.toNat)) U.length (v.qU a.toNat))∧w'.cell? ((v.rU a.toNat).add c.toNat)=some (.int .i64 1))) (ds:= []) (zqb 24 0) (by kernel_rfl) rfl rfl ⟨(blk_cell (blk_drew HG2.out) 0).trans rfl,(blk_cell (blk_drew HXA2.out) 0).trans rfl,(blk_cell (blk_drew HXC.out) 0).trans rfl,(HV2.out.below (below_drew1 (Below.refl _ _))).f0,(HV2.out.below (below_drew1 (Below.refl _ _))).u a Ia.out,hcell_ (HV2.out.below (below_drew1 (Below.refl _ _)))⟩ (fun hHeld=>?_)
    refine with_tabW mod_c1.tab1 mod_c1.bits1 (fun HT_ HW_=>?_)
    generalize hwd:w2.drew=wd at hHeld ⊢
    have HB3:=Aside0.mk (show Below w.heap.size w wd from hwd ▸ below_drew1 HB2.out)
    replace HG2:=Aside0.mk (hwd ▸ blk_drew HG2.out)
    replace HXA2:=Aside0.mk (hwd ▸ blk_drew HXA2.out)
    replace HXC:=Aside0.mk (hwd ▸ blk_drew HXC.out)
    replace HV2:=Aside0.mk (show View wd g U N v from hwd ▸ HV2.out.below (below_drew1 (Below.refl _ _)))
    clear hwd HB2
    refine take_ (i:=0) (N:=some 6) (v:=?_) (a':=?_) (zqb 24 1) rfl rfl (take_ofW HT_.out HW_.out (by kernel_rfl)) (fun _ _ _ h=>h) (Or.inl ⟨by rfl,?_⟩) hHeld ?_ ?_
    rotate_left
    · rintro w' ⟨s0,s1,s2,s3,s4,s5⟩;go_simp;with_reducible rfl
    rotate_left
    · simp only [Act.put,List.setIfInBounds_toArray,List.set_cons_zero,List.set_cons_succ,i64_w,i32_w];rfl
    refine pure_ (i:=1) (N:=some 7) (v:=?_) (a':=?_) (zqb 24 3) rfl rfl (any_of HT_.out (by kernel_rfl)) (fun _ _ _ h=>h) (Or.inl ⟨by rfl,?_⟩) ?_ ?_
    rotate_left
    · intro w';go_simp;with_reducible rfl
    rotate_left
    · simp only [Act.put,List.setIfInBounds_toArray,List.set_cons_zero,List.set_cons_succ,i64_w,i32_w];rfl
    refine pure_ (i:=2) (N:=some 8) (v:=?_) (a':=?_) (zqb 24 7) rfl rfl (any_of HT_.out (by kernel_rfl)) (fun _ _ _ h=>h) (Or.inl ⟨by rfl,?_⟩) ?_ ?_
    rotate_left
    · intro w';go_simp;with_reducible rfl
    rotate_left
    · simp only [Act.put,List.setIfInBounds_toArray,List.set_cons_zero,List.set_cons_succ,i64_w,i32_w];rfl
    refine take_ (i:=3) (N:=some 9) (v:=?_) (a':=?_) (zqb 24 15) rfl rfl (take_ofW HT_.out HW_.out (by kernel_rfl)) (fun _ _ _ h=>h) (Or.inl ⟨by rfl,?_⟩) hHeld ?_ ?_
    rotate_left
    · rintro w' ⟨s0,s1,s2,s3,s4,s5⟩;go_simp;with_reducible rfl
    rotate_left
    · simp only [Act.put,List.setIfInBounds_toArray,List.set_cons_zero,List.set_cons_succ,i64_w,i32_w];rfl
    refine take_ (i:=4) (N:=some 10) (v:=?_) (a':=?_) (zqb 24 31) rfl rfl (take_ofW HT_.out HW_.out (by kernel_rfl)) (fun _ _ _ h=>h) (Or.inl ⟨by rfl,?_⟩) hHeld ?_ ?_
    rotate_left
    · rintro w' ⟨s0,s1,s2,s3,s4,s5⟩;go_simp;with_reducible rfl
    rotate_left
    · simp only [Act.put,List.setIfInBounds_toArray,List.set_cons_zero,List.set_cons_succ,i64_w,i32_w];rfl
    refine pure_ (i:=5) (N:=some 11) (v:=?_) (a':=?_) (zqb 24 63) rfl rfl (any_of HT_.out (by kernel_rfl)) (fun _ _ _ h=>h) (Or.inl ⟨by rfl,?_⟩) ?_ ?_
    rotate_left
    · intro w';go_simp;with_reducible rfl
    rotate_left
    · simp only [Act.put,List.setIfInBounds_toArray,List.set_cons_zero,List.set_cons_succ,i64_w,i32_w];rfl
    refine take_ (i:=6) (N:=some 12) (v:=?_) (a':=?_) (zqb 24 127) rfl rfl (take_ofW HT_.out HW_.out (by kernel_rfl)) (fun _ _ _ h=>h) (Or.inl ⟨by rfl,?_⟩) hHeld ?_ ?_
    rotate_left
    · rintro w' ⟨s0,s1,s2,s3,s4,s5⟩;go_simp;with_reducible rfl
    rotate_left
    · simp only [Act.put,List.setIfInBounds_toArray,List.set_cons_zero,List.set_cons_succ,i64_w,i32_w];rfl
    refine take_ (i:=7) (N:=some 13) (v:=?_) (a':=?_) (zqb 24 255) rfl rfl (take_ofW HT_.out HW_.out (by kernel_rfl)) (fun _ _ _ h=>h) (Or.inl ⟨by rfl,?_⟩) hHeld ?_ ?_
    rotate_left
    · rintro w' ⟨s0,s1,s2,s3,s4,s5⟩;go_simp;with_reducible rfl
    rotate_left
    · simp only [Act.put,List.setIfInBounds_toArray,List.set_cons_zero,List.set_cons_succ,i64_w,i32_w];rfl
    refine pure_ (i:=8) (N:=some 14) (v:=?_) (a':=?_) (zqb 24 511) rfl rfl (any_of HT_.out (by kernel_rfl)) (fun _ _ _ h=>h) (Or.inl ⟨by rfl,?_⟩) ?_ ?_
    rotate_left
    · intro w';go_simp;with_reducible rfl
    rotate_left
    · simp only [Act.put,List.setIfInBounds_toArray,List.set_cons_zero,List.set_cons_succ,i64_w,i32_w];rfl
    refine take_ (i:=9) (N:=some 15) (v:=?_) (a':=?_) (zqb 24 1023) rfl rfl (take_ofW HT_.out HW_.out (by kernel_rfl)) (fun _ _ _ h=>h) (Or.inl ⟨by rfl,?_⟩) hHeld ?_ ?_
    rotate_left
    · rintro w' ⟨s0,s1,s2,s3,s4,s5⟩;go_simp;with_reducible rfl
    rotate_left
    · simp only [Act.put,List.setIfInBounds_toArray,List.set_cons_zero,List.set_cons_succ,i64_w,i32_w];rfl
    refine pure_ (i:=10) (N:=some 16) (v:=?_) (a':=?_) (zqb 24 2047) rfl rfl (any_of HT_.out (by kernel_rfl)) (fun _ _ _ h=>h) (Or.inl ⟨by rfl,?_⟩) ?_ ?_
    rotate_left
    · intro w';go_simp;with_reducible rfl
    rotate_left
    · simp only [Act.put,List.setIfInBounds_toArray,List.set_cons_zero,List.set_cons_succ,i64_w,i32_w];rfl
    refine pure_ (i:=11) (N:=some 17) (v:=?_) (a':=?_) (zqb 24 4095) rfl rfl (any_of HT_.out (by kernel_rfl)) (fun _ _ _ h=>h) (Or.inl ⟨by rfl,?_⟩) ?_ ?_
    rotate_left
    · intro w';go_simp;with_reducible rfl
    rotate_left
    · simp only [Act.put,List.setIfInBounds_toArray,List.set_cons_zero,List.set_cons_succ,i64_w,i32_w];rfl
    refine take_ (i:=12) (N:=some 18) (v:=?_) (a':=?_) (zqb 24 8191) rfl rfl (take_ofW HT_.out HW_.out (by kernel_rfl)) (fun _ _ _ h=>h) (Or.inl ⟨by rfl,?_⟩) hHeld ?_ ?_
    rotate_left
    · rintro w' ⟨s0,s1,s2,s3,s4,s5⟩;go_simp;with_reducible rfl
    rotate_left
    · simp only [Act.put,List.setIfInBounds_toArray,List.set_cons_zero,List.set_cons_succ,i64_w,i32_w];rfl
    refine pure_ (i:=13) (N:=some 19) (v:=?_) (a':=?_) (zqb 24 16383) rfl rfl (any_of HT_.out (by kernel_rfl)) (fun _ _ _ h=>h) (Or.inl ⟨by rfl,?_⟩) ?_ ?_
    rotate_left
    · intro w';go_simp;with_reducible rfl
    rotate_left
    · simp only [Act.put,List.setIfInBounds_toArray,List.set_cons_zero,List.set_cons_succ,i64_w,i32_w];rfl
    refine take_ (i:=16) (N:=some 22) (v:=?_) (a':=?_) (zqb 24 81919) rfl rfl (take_ofW HT_.out HW_.out (by kernel_rfl)) (fun _ _ _ h=>h) (Or.inl ⟨by rfl,?_⟩) hHeld ?_ ?_
    rotate_left
    · rintro w' ⟨s0,s1,s2,s3,s4,s5⟩;go_simp;with_reducible rfl
    rotate_left
    · simp only [Act.put,List.setIfInBounds_toArray,List.set_cons_zero,List.set_cons_succ,i64_w,i32_w];rfl
    refine pure_ (i:=17) (N:=some 23) (v:=?_) (a':=?_) (zqb 24 212991) rfl rfl (any_of HT_.out (by kernel_rfl)) (fun _ _ _ h=>h) (Or.inl ⟨by rfl,?_⟩) ?_ ?_
    rotate_left
    · intro w';go_simp;with_reducible rfl
    rotate_left
    · simp only [Act.put,List.setIfInBounds_toArray,List.set_cons_zero,List.set_cons_succ,i64_w,i32_w];rfl
    refine pure_ (i:=18) (N:=some 24) (v:=?_) (a':=?_) (zqb 24 475135) rfl rfl (any_of HT_.out (by kernel_rfl)) (fun _ _ _ h=>h) (Or.inl ⟨by rfl,?_⟩) ?_ ?_
    rotate_left
    · intro w';go_simp;with_reducible rfl
    rotate_left
    · simp only [Act.put,List.setIfInBounds_toArray,List.set_cons_zero,List.set_cons_succ,i64_w,i32_w];rfl
    refine take_ (i:=19) (N:=some 25) (v:=?_) (a':=?_) (zqb 24 999423) rfl rfl (take_ofW HT_.out HW_.out (by kernel_rfl)) (fun _ _ _ h=>h) (Or.inl ⟨by rfl,?_⟩) hHeld ?_ ?_
    rotate_left
    · rintro w' ⟨s0,s1,s2,s3,s4,s5⟩;go_simp;with_reducible rfl
    rotate_left
    · simp only [Act.put,List.setIfInBounds_toArray,List.set_cons_zero,List.set_cons_succ,i64_w,i32_w];rfl
    refine pure_ (i:=20) (N:=some 26) (v:=?_) (a':=?_) (zqb 24 2047999) rfl rfl (any_of HT_.out (by kernel_rfl)) (fun _ _ _ h=>h) (Or.inl ⟨by rfl,?_⟩) ?_ ?_
    rotate_left
    · intro w';go_simp;with_reducible rfl
    rotate_left
    · simp only [Act.put,List.setIfInBounds_toArray,List.set_cons_zero,List.set_cons_succ,i64_w,i32_w];rfl
    refine one_ (i:=14) (N:=some 20) (zqb 24 2064383) rfl rfl (one_of HT_.out (by kernel_rfl)) (by decide) (fun K hK=>?_)
    refine goes_ Try.func91 (by kernel_rfl) rfl #[.pointer (some ⟨g,0,none⟩),.func (.func 92) #[] #[.pointer (some ⟨gG,0,none⟩),.pointer (some ⟨gA,0,none⟩),.pointer (some ⟨gC,0,none⟩)]] (by rfl) rfl rfl zq324 ?_
    refine(all_calls g U N v _ HLg.out.small HV2.out 92 _ _ Try.func92 (by kernel_rfl) rfl (fun b:Nat=>modT U a b c) (fun b hb W hW=>?_)).mono ?_
    · exact mod_c2 g U N v W HLg.out (HV2.out.below hW) gG gA gC a b c Ia.out ⟨by omega,by omega⟩ Ic.out (blk_below HG2.out hW) (blk_below HXA2.out hW) (blk_below HXC.out hW)
    rintro e w4 ⟨vo,rfl,ho,hb⟩
    obtain⟨Ao,co,rfl⟩:=Kd.R_slice ho
    refine⟨_,rfl,?_⟩
    refine hK.out _ _ ⟨(blk_cell (blk_below HG2.out hb) 0).trans rfl,(blk_cell (blk_below HXA2.out hb) 0).trans rfl,(blk_cell (blk_below HXC.out hb) 0).trans rfl,(HV2.out.below hb).f0,(HV2.out.below hb).u a Ia.out,hcell_ (HV2.out.below hb)⟩ (fun hHeld4=>?_)
    have HB4:=Aside0.mk (below_step HB3.out hb)
    clear hK K ho hb
    (try simp only [Act.put,List.setIfInBounds_toArray,List.set_cons_zero,List.set_cons_succ])
    refine pure_ (i:=15) (N:=some 21) (v:=?_) (a':=?_) (zqb 24 2097151) rfl rfl (any_of HT_.out (by kernel_rfl)) (fun _ _ _ h=>h) (Or.inl ⟨by rfl,?_⟩) ?_ ?_
    rotate_left
    · intro w';go_simp;with_reducible rfl
    rotate_left
    · simp only [Act.put,List.setIfInBounds_toArray,List.set_cons_zero,List.set_cons_succ,i64_w,i32_w];rfl
    refine pure_ (i:=21) (N:=some 27) (v:=?_) (a':=?_) (zqb 24 4194303) rfl rfl (any_of HT_.out (by kernel_rfl)) (fun _ _ _ h=>h) (Or.inl ⟨by rfl,?_⟩) ?_ ?_
    rotate_left
    · intro w';go_simp;with_reducible rfl
    rotate_left
    · simp only [Act.put,List.setIfInBounds_toArray,List.set_cons_zero,List.set_cons_succ,i64_w,i32_w];rfl
    refine pure_ (i:=22) (N:=some 28) (v:=?_) (a':=?_) (zqb 24 8388607) rfl rfl (any_of HT_.out (by kernel_rfl)) (fun _ _ _ h=>h) (Or.inl ⟨by rfl,?_⟩) ?_ ?_
    rotate_left
    · intro w';go_simp;with_reducible rfl
    rotate_left
    · simp only [Act.put,List.setIfInBounds_toArray,List.set_cons_zero,List.set_cons_succ,i64_w,i32_w];rfl
    refine pure_ (i:=23) (N:=some 5) (v:=?_) (a':=?_) (zqb 24 16777215) rfl rfl (any_of HT_.out (by kernel_rfl)) (fun _ _ _ h=>h) (Or.inl ⟨by rfl,?_⟩) ?_ ?_
    rotate_left
    · intro w';go_simp;with_reducible rfl
    rotate_left
    · simp only [Act.put,List.setIfInBounds_toArray,List.set_cons_zero,List.set_cons_succ,i64_w,i32_w];rfl
    refine done_ (done_of HT_.out (by kernel_rfl)) ?_
    go_wp2
    go_ret
    refine⟨?_,zq428⟩
    show Ending.returned (Value.bool (((filI U.length fun b=>modT U a (b:Int) c).length:Int)==(U.length:Int)))=_
    rw [natcast_beq]
    rfl
def impl_ModularOk.f (l0_0 : List (List Int)) (l0_1 : List Int) : Option (Bool) := some (if logicB l0_0 l0_1 = true then modB l0_0 else false)
set_option maxHeartbeats 4000000 in
set_option maxRecDepth 100000 in
theorem impl_ModularOk.calls (A0_0 : Option Addr) (c0_0 : Nat) (l0_0 : List (List Int)) (A0_1 : Option Addr) (c0_1 : Nat) (l0_1 : List Int) (r : Bool) (w : World) (hr0_0 : Kd.C (Kd.slice 3 (Kd.int .i64)) w A0_0 l0_0.length l0_0) (hc0_0 : l0_0.length ≤ c0_0) (hr0_1 : Kd.C (Kd.int .i64) w A0_1 l0_1.length l0_1) (hc0_1 : l0_1.length ≤ c0_1) (h : impl_ModularOk.f l0_0 l0_1 = some r) :
    Calls Try.prog 38 #[.agg #[.slice A0_0 l0_0.length c0_0,.slice A0_1 l0_1.length c0_1]] w fun e w'=>e= .returned (.bool r)∧Below w.heap.size w w':=by
  obtain⟨k,hF⟩:=told_facts l0_0
  have hu30:=Try.underlying30
  have hu70:=Try.underlying70
  have HF:=Aside0.mk hF
  have HR0:=Aside0.mk hr0_0
  have HC0:=Aside0.mk hc0_0
  have HR1:=Aside0.mk hr0_1
  have HC1:=Aside0.mk hc0_1
  simp only [impl_ModularOk.f,Option.some.injEq] at h
  clear hr0_0 hc0_0 hr0_1 hc0_1 hF
  cases hL:logicB l0_0 l0_1 with
  | false =>
    rw [hL] at h
    have hr_:false=r:=by simpa using h
    subst hr_
    have HLB:=Aside0.mk hL
    clear h hL
    go_enter Try.func38,Try.ntmps38
    go_wp2_with (first|((with_reducible refine gate_dst (N:=1) rfl ?_);refine box_event ?hg (N:=1) ?hd (cs:= #[.slice A0_0 l0_0.length c0_0,.slice A0_1 l0_1.length c0_1]) (t:=30) ?hr ?_;(case hd=>rfl);(case hg=>rfl);(case hr=>first|(go_simp;done)|(go_simp;rfl));intro gb hg_ w1 hbox hb;have HB:=Aside0.mk hb;have hx0:w1.cell? ⟨gb,0,none⟩=some (.slice A0_0 l0_0.length c0_0):=(blk_cell hbox 0).trans rfl;have hx1:w1.cell? ⟨gb,1,none⟩=some (.slice A0_1 l0_1.length c0_1):=(blk_cell hbox 1).trans rfl;have HX:=Aside0.mk hbox;clear hbox hb hg_)|(go_at_call 77;(with_reducible refine(told_n k _ _ l0_0 _ _ l0_1 _ ?s1 ?s2 ?s3 ?s4 HF.out HLB.out).mono ?_);(case s1=>exact Kd.C_below HR0.out HB.out);(case s2=>exact HC0.out);(case s3=>exact Kd.C_below HR1.out HB.out);(case s4=>exact HC1.out);rintro e w2 ⟨rfl,hb⟩;have HB2:=Aside0.mk (below_step HB.out hb);clear hb hx0 hx1 HX HB))
    go_ret
    exact⟨rfl,zq116⟩
  | true =>
    rw [hL] at h
    have hr_:modB l0_0=r:=by simpa using h
    subst hr_
    have HLB:=Aside0.mk hL
    have HLg:=Aside0.mk (logicB_iff.1 hL)
    clear h hL
    go_enter Try.func38,Try.ntmps38
    go_wp2_with (first|((with_reducible refine gate_dst (N:=1) rfl ?_);refine box_event ?hg (N:=1) ?hd (cs:= #[.slice A0_0 l0_0.length c0_0,.slice A0_1 l0_1.length c0_1]) (t:=30) ?hr ?_;(case hd=>rfl);(case hg=>rfl);(case hr=>first|(go_simp;done)|(go_simp;rfl));intro gb hg_ w1 hbox hb;have HB:=Aside0.mk hb;have hx0:w1.cell? ⟨gb,0,none⟩=some (.slice A0_0 l0_0.length c0_0):=(blk_cell hbox 0).trans rfl;have hx1:w1.cell? ⟨gb,1,none⟩=some (.slice A0_1 l0_1.length c0_1):=(blk_cell hbox 1).trans rfl;have HX:=Aside0.mk hbox;clear hbox hb hg_)|(go_at_call 77;(with_reducible refine(told_y k _ _ l0_0 _ _ l0_1 _ ?s1 ?s2 ?s3 ?s4 HF.out HLB.out).mono ?_);(case s1=>exact Kd.C_below HR0.out HB.out);(case s2=>exact HC0.out);(case s3=>exact Kd.C_below HR1.out HB.out);(case s4=>exact HC1.out);rintro e w2 ⟨g,v,rfl,hv,hge,hb⟩;have HB2:=Aside0.mk (below_step HB.out hb);have HV:=Aside0.mk hv;clear hv hge hb hx0 hx1 HX HB)|(go_at_call 87;(with_reducible refine(every_pure g l0_0 l0_1 v _ HLg.out.small ?sV 90 _ #[.pointer (some ⟨w2.heap.size,0,none⟩)] Try.func90 (by kernel_rfl) rfl (fun a c=>!leI l0_0 a c||allN l0_0.length fun b=>modT l0_0 a b c) ?sT).mono ?_);(case sV=>exact HV.out.below (below_alloc (Below.refl _ _) _));(case sT=>exact fun a c ha hc W hW=>mod_c1 g l0_0 l0_1 v W HLg.out ((HV.out.below (below_alloc (Below.refl _ _) _)).below hW) w2.heap.size a c ⟨by omega,by omega⟩ ⟨by omega,by omega⟩ (blk_below (MapKept.heap_alloc w2 _).1 hW));rintro e w3 ⟨rfl,hb⟩;have HB3:=Aside0.mk (below_step (below_step HB2.out (below_alloc (Below.refl _ _) _)) hb);clear hb))
    go_ret
    exact⟨rfl,zq284⟩
end Go.Proofs.Ytdoomkcgdcfmlaa.Print
end
section
namespace Go.Proofs.Ytdoomkcgdcfmlaa.Print
open Go.RowKit Go.Proofs.YtdoomkcgdcfmlaaW.PrintWords Go.Proofs.YtdoomkcgdcfmlaaW.PrintLast Go.Proofs.YtdoomkcgdcfmlaaW.PrintMore
def laws_FnAddsUpOk.f (k : Nat) (l0 : List Int) : Option (Bool) := if (l0.length : Int) > 1048576 then (some true) else ((spec_DrawAddsUpOk.f k l0).bind fun bt780 => ((impl_AddsUpOk.f bt780.1 bt780.2).bind fun t787 => ((spec_AddsUpOk.f k bt780.1 bt780.2).bind fun t788 => (if (t787 != t788) = true then (some false) else ((impl_ModularOk.f bt780.1 bt780.2).bind fun t789 => (if (t787 == t789) = true then ((laws_alive.f k).bind fun t790 => (some t790)) else (some false)))))))
set_option maxHeartbeats 8000000 in
set_option maxRecDepth 100000 in
theorem laws_FnAddsUpOk.calls (k : Nat) (A0 : Option Addr) (c0 : Nat) (l0 : List Int) (r : Bool) (w : World) (hr0 : Kd.C (Kd.int .u8) w A0 l0.length l0) (hc0 : l0.length ≤ c0) (h : laws_FnAddsUpOk.f k l0 = some r) :
  Calls Try.prog 7 #[.slice A0 l0.length c0] w fun e w' => e = .returned (.bool r) ∧ Below w.heap.size w w' := by
 have hu30:=Try.underlying30;have d2:=zqm hr0;have d3:=zqm hc0;clear hr0 hc0;have HB:=zqm (Below.refl w.heap.size w);have H:(if(l0.length:Int)>1048576 then(some true) else((spec_DrawAddsUpOk.f k l0).bind fun c5=>((impl_AddsUpOk.f c5.1 c5.2).bind fun a6=>((spec_AddsUpOk.f k c5.1 c5.2).bind fun a8=>(if(a6 !=a8)=true then(some false) else((impl_ModularOk.f c5.1 c5.2).bind fun a7=>(if(a6==a7)=true then((laws_alive.f k).bind fun b8=>(some b8)) else(some false))))))))=some r:=h;clear h
 by_cases c2:(l0.length:Int)>1048576
 ·rw [if_pos c2] at H;have f2:decide (1048576<(l0.length:Int))=true:=decide_eq_true c2;have f3:decide (1048576<l0.length)=true:=decide_eq_true (by omega);clear c2;obtain rfl:=Option.some.inj H
  go_enter Try.func7,Try.ntmps7
  go_wp2
  go_ret
  exact⟨zq11,zq0⟩
 ·rw [if_neg c2] at H;have f2:decide (1048576<(l0.length:Int))=false:=decide_eq_false c2;have f3:decide (1048576<l0.length)=false:=decide_eq_false (by omega);clear c2;replace H:=Option.bind_eq_some_iff.mp H;obtain⟨⟨a2,a3⟩,e1,H⟩:=H;replace H:((impl_AddsUpOk.f a2 a3).bind fun a6=>((spec_AddsUpOk.f k a2 a3).bind fun a8=>(if(a6 !=a8)=true then(some false) else((impl_ModularOk.f a2 a3).bind fun a7=>(if(a6==a7)=true then((laws_alive.f k).bind fun b8=>(some b8)) else(some false))))))=some r:=H;have A3:=zqm e1;clear e1;replace H:=Option.bind_eq_some_iff.mp H;obtain⟨a6,e2,H⟩:=H;replace H:((spec_AddsUpOk.f k a2 a3).bind fun a8=>(if(a6 !=a8)=true then(some false) else((impl_ModularOk.f a2 a3).bind fun a7=>(if(a6==a7)=true then((laws_alive.f k).bind fun b8=>(some b8)) else(some false)))))=some r:=H;have A4:=zqm e2;clear e2;replace H:=Option.bind_eq_some_iff.mp H;obtain⟨a8,e3,H⟩:=H;replace H:(if(a6 !=a8)=true then(some false) else((impl_ModularOk.f a2 a3).bind fun a7=>(if(a6==a7)=true then((laws_alive.f k).bind fun b8=>(some b8)) else(some false))))=some r:=H;have A5:=zqm e3;clear e3
  by_cases c6:(a6 !=a8)=true
  ·rw [if_pos c6] at H;have f4:(a6 !=a8)=true:=c6;(try(have f5:decide (a6=a8)=false:=by simpa using c6));(try(have f6:(a6==a8)=false:=by simpa using c6));(try(have j7: ¬(a6=a8):=by simpa using c6));clear c6;obtain rfl:=Option.some.inj H
   go_enter Try.func7,Try.ntmps7
   go_wp2_with (first|((with_reducible refine gate_callee (f:=35) rfl ?_);refine goesL_ (some 9) rfl rfl Try.func35 zqk rfl #[.slice A0 l0.length c0] rfl zq1 ?_;(with_reducible refine(spec_DrawAddsUpOk.calls k _ _ l0 a2 a3 _ ?side1 ?side2 A3.out).mono ?_);(case side1=> exact zq310);(case side2=>exact d3.out);rintro e w7 ⟨d4,d5,rfl,c8,c9,hb⟩;refine⟨_,rfl,?_⟩;have a4:=zqm (Kd.S_lower c8 (below_size zq0));have a5:=zqm (Kd.Q_lower c9 (below_size zq0));replace HB:=zqm (below_step zq0 hb);clear hb c8 c9)|((with_reducible refine gate_dst (N:=3) rfl ?_);refine box_event ?hg (N:=3) ?hd (cs:= #[.slice none 0 0,.slice none 0 0]) (t:=30) ?hr ?_;(case hd=>rfl);(case hg=>rfl);(case hr=>first|(go_simp;done)|(go_simp;rfl));intro a1 hg w8 hbox hb;replace a4:=zqm (Kd.S_below zq35 hb);replace a5:=zqm (Kd.Q_below zq34 hb);have d0:=zqm (below_step zq0 hb);have a0:=zqm (hbox);have d1:=zqm ((by rw [hg];exact(below_size zq0):w.heap.size≤a1));have a9:=zqm ((by rw [hg];exact(below_size zq0):w.heap.size≤a1));clear HB;have HB:=d0;clear d0 hb hbox hg;obtain⟨c7,c3,j4⟩:=Kd.S_slice a4.out;subst j4;have g2:w8.cell? ⟨a1,0,none⟩=some (.slice none 0 0):=(blk_cell a0.out 0).trans rfl;have g3:w8.cell? ⟨a1,1,none⟩=some (.slice none 0 0):=(blk_cell a0.out 1).trans rfl;have g4:=blk_frozen a0.out 0;have g5:=blk_frozen a0.out 1;obtain⟨c1,b9,f7,_⟩:=Kd.Q_slice a5.out;subst f7)|((with_reducible refine gate_callee (f:=36) rfl ?_);refine goesL_ (some 11) rfl rfl Try.func36 zqk rfl #[.agg #[.slice c7 a2.length c3,.slice c1 a3.length b9]] rfl zq1 ?_;(with_reducible refine(impl_AddsUpOk.calls _ _ a2 _ _ a3 a6 _ ?side1 ?side2 ?side3 ?side4 A4.out).mono ?_);(case side1=>refine(Kd.S_reads' (e:=28) (base:=w.heap.size) (ok:=fun k_=>some k_≠(.slice c1 a3.length b9:Value).ownBlock) (n:=a2.length) (c:=c3) ?_).2.2;exact zq214);(case side2=>exact(Kd.S_reads' a4.out).2.1);(case side3=>refine(Kd.Q_reads' (e:=3) (base:=w.heap.size) (ok:=fun k_=>True) (n:=a3.length) (c:=b9) ?_).2.2;exact zq234);(case side4=>exact(Kd.Q_reads' a5.out).2.1);rintro e e4 ⟨rfl,hb⟩;refine⟨_,rfl,?_⟩;replace a4:=zqm (Kd.S_below zq214 hb);replace a5:=zqm (Kd.Q_below zq234 hb);replace a0:=zqm (blk_below (g:=a1) (o:= .cells #[.slice c7 a2.length c3,.slice c1 a3.length b9] 30 (0,0)) (by(with_reducible repeat(first|refine blk_drewN ?_ _|refine blk_drew ?_|refine blk_alloc ?_ _));refine blk_put (cs:= #[.slice c7 a2.length c3,.slice none 0 0]) ?_ 1 _ rfl;(with_reducible repeat(first|refine blk_drewN ?_ _|refine blk_drew ?_|refine blk_alloc ?_ _));refine blk_put (cs:= #[.slice none 0 0,.slice none 0 0]) ?_ 0 _ rfl;(with_reducible repeat(first|refine blk_drewN ?_ _|refine blk_drew ?_|refine blk_alloc ?_ _));exact a0.out) hb);replace HB:=zqm (below_step zq17 hb);clear hb;have g6:e4.cell? ⟨a1,0,none⟩=some (.slice c7 a2.length c3):=(blk_cell a0.out 0).trans rfl;have g7:e4.cell? ⟨a1,1,none⟩=some (.slice c1 a3.length b9):=(blk_cell a0.out 1).trans rfl;have g8:=blk_frozen a0.out 0;have g9:=blk_frozen a0.out 1)|((with_reducible refine gate_callee (f:=37) rfl ?_);refine goesL_ (some 14) rfl rfl Try.func37 zqk rfl #[.agg #[.slice c7 a2.length c3,.slice c1 a3.length b9]] rfl zq1 ?_;(with_reducible refine(spec_AddsUpOk.calls k _ _ a2 _ _ a3 a8 _ ?side1 ?side2 ?side3 ?side4 A5.out).mono ?_);(case side1=> exact zq44);(case side2=>exact(Kd.S_reads' a4.out).2.1);(case side3=> exact zq43);(case side4=>exact(Kd.Q_reads' a5.out).2.1);rintro e j8 ⟨rfl,hb⟩;refine⟨_,rfl,?_⟩;replace a4:=zqm (Kd.S_below zq35 hb);replace a5:=zqm (Kd.Q_below zq34 hb);replace a0:=zqm (blk_below (g:=a1) (o:= .cells #[.slice c7 a2.length c3,.slice c1 a3.length b9] 30 (0,0)) zq2 hb);replace HB:=zqm (below_step zq17 hb);clear hb))
   go_ret
   exact⟨zq11,zq17⟩
  ·rw [if_neg c6] at H;(have f4:(a6 !=a8)=false:=by simpa using c6);(try(have f5:decide (a6=a8)=true:=by simpa using c6));(try(have f6:(a6==a8)=true:=by simpa using c6));clear c6;replace H:=Option.bind_eq_some_iff.mp H;obtain⟨a7,d6,H⟩:=H;replace H:(if(a6==a7)=true then((laws_alive.f k).bind fun b8=>(some b8)) else(some false))=some r:=H;have e5:=zqm d6;clear d6
   by_cases c4:(a6==a7)=true
   ·rw [if_pos c4] at H;have d8:(a6==a7)=true:=c4;(try(have d9:decide (a6=a7)=true:=by simpa using c4));(try(have e0:(a6==a7)=true:=by simpa using c4));clear c4;replace H:=Option.bind_eq_some_iff.mp H;obtain⟨b8,d7,H⟩:=H;replace H:(some b8)=some r:=H;have j5:=zqm d7;clear d7;obtain rfl:=Option.some.inj H
    go_enter Try.func7,Try.ntmps7
    go_wp2_with (first|((with_reducible refine gate_callee (f:=35) rfl ?_);refine goesL_ (some 9) rfl rfl Try.func35 zqk rfl #[.slice A0 l0.length c0] rfl zq1 ?_;(with_reducible refine(spec_DrawAddsUpOk.calls k _ _ l0 a2 a3 _ ?side1 ?side2 A3.out).mono ?_);(case side1=> exact zq310);(case side2=>exact d3.out);rintro e j9 ⟨d4,d5,rfl,c8,c9,hb⟩;refine⟨_,rfl,?_⟩;have a4:=zqm (Kd.S_lower c8 (below_size zq0));have a5:=zqm (Kd.Q_lower c9 (below_size zq0));replace HB:=zqm (below_step zq0 hb);clear hb c8 c9)|((with_reducible refine gate_dst (N:=3) rfl ?_);refine box_event ?hg (N:=3) ?hd (cs:= #[.slice none 0 0,.slice none 0 0]) (t:=30) ?hr ?_;(case hd=>rfl);(case hg=>rfl);(case hr=>first|(go_simp;done)|(go_simp;rfl));intro a1 hg e6 hbox hb;replace a4:=zqm (Kd.S_below zq35 hb);replace a5:=zqm (Kd.Q_below zq34 hb);have d0:=zqm (below_step zq0 hb);have a0:=zqm (hbox);have d1:=zqm ((by rw [hg];exact(below_size zq0):w.heap.size≤a1));have a9:=zqm ((by rw [hg];exact(below_size zq0):w.heap.size≤a1));clear HB;have HB:=d0;clear d0 hb hbox hg;obtain⟨b2,b0,f8⟩:=Kd.S_slice a4.out;subst f8;have h0:e6.cell? ⟨a1,0,none⟩=some (.slice none 0 0):=(blk_cell a0.out 0).trans rfl;have h1:e6.cell? ⟨a1,1,none⟩=some (.slice none 0 0):=(blk_cell a0.out 1).trans rfl;have h2:=blk_frozen a0.out 0;have h3:=blk_frozen a0.out 1;obtain⟨b3,b1,f9,_⟩:=Kd.Q_slice a5.out;subst f9)|((with_reducible refine gate_callee (f:=36) rfl ?_);refine goesL_ (some 11) rfl rfl Try.func36 zqk rfl #[.agg #[.slice b2 a2.length b0,.slice b3 a3.length b1]] rfl zq1 ?_;(with_reducible refine(impl_AddsUpOk.calls _ _ a2 _ _ a3 a6 _ ?side1 ?side2 ?side3 ?side4 A4.out).mono ?_);(case side1=>refine(Kd.S_reads' (e:=28) (base:=w.heap.size) (ok:=fun k_=>some k_≠(.slice b3 a3.length b1:Value).ownBlock) (n:=a2.length) (c:=b0) ?_).2.2;exact zq227);(case side2=>exact(Kd.S_reads' a4.out).2.1);(case side3=>refine(Kd.Q_reads' (e:=3) (base:=w.heap.size) (ok:=fun k_=>True) (n:=a3.length) (c:=b1) ?_).2.2;exact zq221);(case side4=>exact(Kd.Q_reads' a5.out).2.1);rintro e e7 ⟨rfl,hb⟩;refine⟨_,rfl,?_⟩;replace a4:=zqm (Kd.S_below zq227 hb);replace a5:=zqm (Kd.Q_below zq221 hb);replace a0:=zqm (blk_below (g:=a1) (o:= .cells #[.slice b2 a2.length b0,.slice b3 a3.length b1] 30 (0,0)) (by(with_reducible repeat(first|refine blk_drewN ?_ _|refine blk_drew ?_|refine blk_alloc ?_ _));refine blk_put (cs:= #[.slice b2 a2.length b0,.slice none 0 0]) ?_ 1 _ rfl;(with_reducible repeat(first|refine blk_drewN ?_ _|refine blk_drew ?_|refine blk_alloc ?_ _));refine blk_put (cs:= #[.slice none 0 0,.slice none 0 0]) ?_ 0 _ rfl;(with_reducible repeat(first|refine blk_drewN ?_ _|refine blk_drew ?_|refine blk_alloc ?_ _));exact a0.out) hb);replace HB:=zqm (below_step zq17 hb);clear hb;have h4:e7.cell? ⟨a1,0,none⟩=some (.slice b2 a2.length b0):=(blk_cell a0.out 0).trans rfl;have h5:e7.cell? ⟨a1,1,none⟩=some (.slice b3 a3.length b1):=(blk_cell a0.out 1).trans rfl;have h6:=blk_frozen a0.out 0;have h7:=blk_frozen a0.out 1)|((with_reducible refine gate_callee (f:=37) rfl ?_);refine goesL_ (some 14) rfl rfl Try.func37 zqk rfl #[.agg #[.slice b2 a2.length b0,.slice b3 a3.length b1]] rfl zq1 ?_;(with_reducible refine(spec_AddsUpOk.calls k _ _ a2 _ _ a3 a8 _ ?side1 ?side2 ?side3 ?side4 A5.out).mono ?_);(case side1=> exact zq44);(case side2=>exact(Kd.S_reads' a4.out).2.1);(case side3=> exact zq43);(case side4=>exact(Kd.Q_reads' a5.out).2.1);rintro e e8 ⟨rfl,hb⟩;refine⟨_,rfl,?_⟩;replace a4:=zqm (Kd.S_below zq35 hb);replace a5:=zqm (Kd.Q_below zq34 hb);replace a0:=zqm (blk_below (g:=a1) (o:= .cells #[.slice b2 a2.length b0,.slice b3 a3.length b1] 30 (0,0)) zq2 hb);replace HB:=zqm (below_step zq17 hb);clear hb;have h8:e8.cell? ⟨a1,0,none⟩=some (.slice b2 a2.length b0):=(blk_cell a0.out 0).trans rfl;have h9:e8.cell? ⟨a1,1,none⟩=some (.slice b3 a3.length b1):=(blk_cell a0.out 1).trans rfl;have i0:=blk_frozen a0.out 0;have i1:=blk_frozen a0.out 1)|((with_reducible refine gate_callee (f:=38) rfl ?_);refine goesL_ (some 18) rfl rfl Try.func38 zqk rfl #[.agg #[.slice b2 a2.length b0,.slice b3 a3.length b1]] rfl zq1 ?_;(with_reducible refine(impl_ModularOk.calls _ _ a2 _ _ a3 a7 _ ?side1 ?side2 ?side3 ?side4 e5.out).mono ?_);(case side1=> exact zq44);(case side2=>exact(Kd.S_reads' a4.out).2.1);(case side3=> exact zq43);(case side4=>exact(Kd.Q_reads' a5.out).2.1);rintro e k0 ⟨rfl,hb⟩;refine⟨_,rfl,?_⟩;replace a4:=zqm (Kd.S_below zq35 hb);replace a5:=zqm (Kd.Q_below zq34 hb);replace a0:=zqm (blk_below (g:=a1) (o:= .cells #[.slice b2 a2.length b0,.slice b3 a3.length b1] 30 (0,0)) zq2 hb);replace HB:=zqm (below_step zq17 hb);clear hb)|(go_at_call 18;(with_reducible refine(laws_alive.calls k b8 _ j5.out).mono ?_);rintro e k1 ⟨rfl,hb⟩;replace a4:=zqm (Kd.S_below zq35 hb);replace a5:=zqm (Kd.Q_below zq34 hb);replace a0:=zqm (blk_below (g:=a1) (o:= .cells #[.slice b2 a2.length b0,.slice b3 a3.length b1] 30 (0,0)) zq2 hb);replace HB:=zqm (below_step zq17 hb);clear hb))
    go_ret
    exact⟨zq11,zq17⟩
   ·rw [if_neg c4] at H;(have d8:(a6==a7)=false:=by simpa using c4);(try(have d9:decide (a6=a7)=false:=by simpa using c4));(try(have e0:(a6==a7)=false:=by simpa using c4));(try(have j6: ¬(a6=a7):=by simpa using c4));clear c4;obtain rfl:=Option.some.inj H
    go_enter Try.func7,Try.ntmps7
    go_wp2_with (first|((with_reducible refine gate_callee (f:=35) rfl ?_);refine goesL_ (some 9) rfl rfl Try.func35 zqk rfl #[.slice A0 l0.length c0] rfl zq1 ?_;(with_reducible refine(spec_DrawAddsUpOk.calls k _ _ l0 a2 a3 _ ?side1 ?side2 A3.out).mono ?_);(case side1=> exact zq310);(case side2=>exact d3.out);rintro e k2 ⟨d4,d5,rfl,c8,c9,hb⟩;refine⟨_,rfl,?_⟩;have a4:=zqm (Kd.S_lower c8 (below_size zq0));have a5:=zqm (Kd.Q_lower c9 (below_size zq0));replace HB:=zqm (below_step zq0 hb);clear hb c8 c9)|((with_reducible refine gate_dst (N:=3) rfl ?_);refine box_event ?hg (N:=3) ?hd (cs:= #[.slice none 0 0,.slice none 0 0]) (t:=30) ?hr ?_;(case hd=>rfl);(case hg=>rfl);(case hr=>first|(go_simp;done)|(go_simp;rfl));intro a1 hg e9 hbox hb;replace a4:=zqm (Kd.S_below zq35 hb);replace a5:=zqm (Kd.Q_below zq34 hb);have d0:=zqm (below_step zq0 hb);have a0:=zqm (hbox);have d1:=zqm ((by rw [hg];exact(below_size zq0):w.heap.size≤a1));have a9:=zqm ((by rw [hg];exact(below_size zq0):w.heap.size≤a1));clear HB;have HB:=d0;clear d0 hb hbox hg;obtain⟨b6,b4,g0⟩:=Kd.S_slice a4.out;subst g0;have i2:e9.cell? ⟨a1,0,none⟩=some (.slice none 0 0):=(blk_cell a0.out 0).trans rfl;have i3:e9.cell? ⟨a1,1,none⟩=some (.slice none 0 0):=(blk_cell a0.out 1).trans rfl;have i4:=blk_frozen a0.out 0;have i5:=blk_frozen a0.out 1;obtain⟨b7,b5,g1,_⟩:=Kd.Q_slice a5.out;subst g1)|((with_reducible refine gate_callee (f:=36) rfl ?_);refine goesL_ (some 11) rfl rfl Try.func36 zqk rfl #[.agg #[.slice b6 a2.length b4,.slice b7 a3.length b5]] rfl zq1 ?_;(with_reducible refine(impl_AddsUpOk.calls _ _ a2 _ _ a3 a6 _ ?side1 ?side2 ?side3 ?side4 A4.out).mono ?_);(case side1=>refine(Kd.S_reads' (e:=28) (base:=w.heap.size) (ok:=fun k_=>some k_≠(.slice b7 a3.length b5:Value).ownBlock) (n:=a2.length) (c:=b4) ?_).2.2;exact zq222);(case side2=>exact(Kd.S_reads' a4.out).2.1);(case side3=>refine(Kd.Q_reads' (e:=3) (base:=w.heap.size) (ok:=fun k_=>True) (n:=a3.length) (c:=b5) ?_).2.2;exact zq245);(case side4=>exact(Kd.Q_reads' a5.out).2.1);rintro e f0 ⟨rfl,hb⟩;refine⟨_,rfl,?_⟩;replace a4:=zqm (Kd.S_below zq222 hb);replace a5:=zqm (Kd.Q_below zq245 hb);replace a0:=zqm (blk_below (g:=a1) (o:= .cells #[.slice b6 a2.length b4,.slice b7 a3.length b5] 30 (0,0)) (by(with_reducible repeat(first|refine blk_drewN ?_ _|refine blk_drew ?_|refine blk_alloc ?_ _));refine blk_put (cs:= #[.slice b6 a2.length b4,.slice none 0 0]) ?_ 1 _ rfl;(with_reducible repeat(first|refine blk_drewN ?_ _|refine blk_drew ?_|refine blk_alloc ?_ _));refine blk_put (cs:= #[.slice none 0 0,.slice none 0 0]) ?_ 0 _ rfl;(with_reducible repeat(first|refine blk_drewN ?_ _|refine blk_drew ?_|refine blk_alloc ?_ _));exact a0.out) hb);replace HB:=zqm (below_step zq17 hb);clear hb;have i6:f0.cell? ⟨a1,0,none⟩=some (.slice b6 a2.length b4):=(blk_cell a0.out 0).trans rfl;have i7:f0.cell? ⟨a1,1,none⟩=some (.slice b7 a3.length b5):=(blk_cell a0.out 1).trans rfl;have i8:=blk_frozen a0.out 0;have i9:=blk_frozen a0.out 1)|((with_reducible refine gate_callee (f:=37) rfl ?_);refine goesL_ (some 14) rfl rfl Try.func37 zqk rfl #[.agg #[.slice b6 a2.length b4,.slice b7 a3.length b5]] rfl zq1 ?_;(with_reducible refine(spec_AddsUpOk.calls k _ _ a2 _ _ a3 a8 _ ?side1 ?side2 ?side3 ?side4 A5.out).mono ?_);(case side1=> exact zq44);(case side2=>exact(Kd.S_reads' a4.out).2.1);(case side3=> exact zq43);(case side4=>exact(Kd.Q_reads' a5.out).2.1);rintro e f1 ⟨rfl,hb⟩;refine⟨_,rfl,?_⟩;replace a4:=zqm (Kd.S_below zq35 hb);replace a5:=zqm (Kd.Q_below zq34 hb);replace a0:=zqm (blk_below (g:=a1) (o:= .cells #[.slice b6 a2.length b4,.slice b7 a3.length b5] 30 (0,0)) zq2 hb);replace HB:=zqm (below_step zq17 hb);clear hb;have j0:f1.cell? ⟨a1,0,none⟩=some (.slice b6 a2.length b4):=(blk_cell a0.out 0).trans rfl;have j1:f1.cell? ⟨a1,1,none⟩=some (.slice b7 a3.length b5):=(blk_cell a0.out 1).trans rfl;have j2:=blk_frozen a0.out 0;have j3:=blk_frozen a0.out 1)|((with_reducible refine gate_callee (f:=38) rfl ?_);refine goesL_ (some 18) rfl rfl Try.func38 zqk rfl #[.agg #[.slice b6 a2.length b4,.slice b7 a3.length b5]] rfl zq1 ?_;(with_reducible refine(impl_ModularOk.calls _ _ a2 _ _ a3 a7 _ ?side1 ?side2 ?side3 ?side4 e5.out).mono ?_);(case side1=> exact zq44);(case side2=>exact(Kd.S_reads' a4.out).2.1);(case side3=> exact zq43);(case side4=>exact(Kd.Q_reads' a5.out).2.1);rintro e k3 ⟨rfl,hb⟩;refine⟨_,rfl,?_⟩;replace a4:=zqm (Kd.S_below zq35 hb);replace a5:=zqm (Kd.Q_below zq34 hb);replace a0:=zqm (blk_below (g:=a1) (o:= .cells #[.slice b6 a2.length b4,.slice b7 a3.length b5] 30 (0,0)) zq2 hb);replace HB:=zqm (below_step zq17 hb);clear hb))
    go_ret
    exact⟨zq11,zq17⟩
def laws_FnAddsUpOk.Pure : Prop := ∀ (l0 : List Int), l0.length ≤ maxLen → l0.length * 1 ≤ 140737488351232 → (∀ x ∈ l0, (Lit.int .u8 x).wf = true) → ∃ k, laws_FnAddsUpOk.f k l0 = some true
theorem laws_FnAddsUpOk.walk (P : laws_FnAddsUpOk.Pure) (a0 : Option Addr) (len0 cap0 : Nat) (z0 : List Int) (w : World) (w0 : (a0 = none ∧ len0 = 0 ∧ cap0 = 0 ∧ z0 = []) ∨ ∃ x, a0 = some x ∧ len0 ≤ cap0 ∧ cap0 ≤ maxLen ∧ z0.length = cap0 ∧ (∀ i, i < z0.length → w.cell? (x.add i) = some (.int .u8 (z0.getD i 0))) ∧ ∀ n ∈ z0, (Lit.int .u8 n).wf = true) (y0 : len0 * 1 ≤ 140737488351232) :
  Calls Try.prog 7 #[.slice a0 len0 cap0] w fun e w' => e = .returned (.bool true) ∧ Below w.heap.size w w' := by
 obtain ⟨l0, rfl, hr0, hm0, hw0, hc0⟩ := ReadsInt.ofRowC w0
 obtain ⟨k, h⟩ := P l0 hm0 y0 hw0
 refine (laws_FnAddsUpOk.calls k _ _ l0 true w (Kd.C_of_reads (d := (0 : Int)) (h1 := fun _ => rfl) hr0) hc0 h).mono ?_
 rintro e w' ⟨rfl, hd⟩
 exact ⟨rfl, hd⟩
end Go.Proofs.Ytdoomkcgdcfmlaa.Print
end
section
namespace Go.Proofs.Ytdoomkcgdcfmlaa.Print
open Go.RowKit Go.Proofs.YtdoomkcgdcfmlaaW.PrintWords Go.Proofs.YtdoomkcgdcfmlaaW.PrintLast Go.Proofs.YtdoomkcgdcfmlaaW.PrintMore
open Oml
theorem andI_nat (U : List (List Int)) (a b : Nat) : andI U a b = mI U a b := by simp [andI]
theorem orI_nat (U : List (List Int)) (a b : Nat) : orI U a b = jI U a b := by simp [orI]
theorem mI_comm (U : List (List Int)) (a b : Nat) : mI U a b = mI U b a := by unfold mI; rw [meetO_comm]
theorem jI_comm (U : List (List Int)) (a b : Nat) : jI U a b = jI U b a := by unfold jI; rw [joinO_comm]
end Go.Proofs.Ytdoomkcgdcfmlaa.Print
end
section
namespace Go.Proofs.Ytdoomkcgdcfmlaa.Print
open Go.RowKit Go.Proofs.YtdoomkcgdcfmlaaW.PrintWords Go.Proofs.YtdoomkcgdcfmlaaW.PrintLast Go.Proofs.YtdoomkcgdcfmlaaW.PrintMore
open Oml
section
variable {U : List (List Int)} {N : List Int} (L : Logic U N)
include L
theorem meet_in {a b : Int} (ha : In U a) (hb : In U b) : Ev (fun k => spec_l1Meet.f k U a b) (andI U a b) := by
  obtain⟨x,rfl⟩: ∃x:Nat,a=x:=⟨a.toNat,by have:=ha.1;omega⟩
  obtain⟨y,rfl⟩: ∃y:Nat,b=y:=⟨b.toNat,by have:=hb.1;omega⟩
  exact spec_l1Meet.ev L.toOrder (by have:=ha.2;omega) (by have:=hb.2;omega)
theorem join_in {a b : Int} (ha : In U a) (hb : In U b) : Ev (fun k => spec_l1Join.f k U a b) (orI U a b) := by
  obtain⟨x,rfl⟩: ∃x:Nat,a=x:=⟨a.toNat,by have:=ha.1;omega⟩
  obtain⟨y,rfl⟩: ∃y:Nat,b=y:=⟨b.toNat,by have:=hb.1;omega⟩
  exact spec_l1Join.ev L.toOrder (by have:=ha.2;omega) (by have:=hb.2;omega)
end
end Go.Proofs.Ytdoomkcgdcfmlaa.Print
end
section
namespace Go.Proofs.Ytdoomkcgdcfmlaa.Print
open Go.RowKit Go.Proofs.YtdoomkcgdcfmlaaW.PrintWords Go.Proofs.YtdoomkcgdcfmlaaW.PrintLast Go.Proofs.YtdoomkcgdcfmlaaW.PrintMore
open Oml
theorem andI_comm (U : List (List Int)) (a b : Int) : andI U a b = andI U b a := by unfold andI; exact mI_comm U _ _
theorem orI_comm (U : List (List Int)) (a b : Int) : orI U a b = orI U b a := by unfold orI; exact jI_comm U _ _
theorem addT_comm (U : List (List Int)) (a b : Int) : addT U a b = addT U b a := by
  unfold addT
  rw [andI_comm U a b, orI_comm U a b, Int.add_comm (hiI U a)]
theorem addT_self {U : List (List Int)} (O : Order U) {a : Nat} (ha : a < U.length) : addT U a a = true := by
  unfold addT
  rw [andI_nat,orI_nat,mI,jI,O.meet_eq (a:=a) (b:=a) ha (meetP_iff.2 ⟨O.refl a ha,O.refl a ha,fun d _ h _=>h⟩),O.join_eq (a:=a) (b:=a) ha (joinP_iff.2 ⟨O.refl a ha,O.refl a ha,fun d _ h _=>h⟩)]
  simp [optI]
theorem addB_half {U : List (List Int)} (O : Order U) : addB U = allN U.length fun a => allN a fun b => addT U a b := by
  rw [Bool.eq_iff_iff]
  unfold addB
  simp only [allN_iff]
  constructor
  · intro h a ha b hb
    exact h a ha b (by omega)
  · intro h a ha b hb
    rcases Nat.lt_trichotomy b a with hlt|rfl|hlt
    · exact h a ha b hlt
    · exact addT_self O hb
    · rw [addT_comm]
      exact h b hb a hlt
theorem hiL_rd (U : List (List Int)) {a : Int} (ha : In U a) : rd (hiL U U.length) a = hiI U a := by
  obtain ⟨x, rfl⟩ : ∃ x : Nat, a = x := ⟨a.toNat, by have := ha.1; omega⟩
  rw [rd_nat, ← Int.toNat_natCast x, hiL_at ha.1 ha.2, Int.toNat_natCast]
theorem spec_AddsUpOk.ev (U : List (List Int)) (N : List Int) : Ev (fun k => spec_AddsUpOk.f k U N) (if logicB U N = true then addB U else false) := by
  unfold spec_AddsUpOk.f
  refine Ev.bind (spec_LogicOk.ev U N) ?_
  cases hl:logicB U N with
  | false => repeat (first | ((with_reducible refine Ev.ite_pos ?_ ?_); (first | assumption | (focus omega) | (focus (simp; done)))) | ((with_reducible refine Ev.ite_neg ?_ ?_); (first | assumption | (focus omega) | (focus (simp; done)))))
             exact Ev.now _
  | true =>
    have L:=logicB_iff.1 hl
    have O:=L.toOrder
    have hs:=L.small
    have hll:((hiL U U.length).length:Int)=U.length:=by rw [hiL_length]
    rw [L.len,addB_half O]
    repeat(first|((with_reducible refine Ev.ite_pos ?_ ?_);(first|assumption|(focus omega)|(focus (simp;done))))|((with_reducible refine Ev.ite_neg ?_ ?_);(first|assumption|(focus omega)|(focus (simp;done)))))
    rw [if_pos rfl]
    refine Ev.loop (g:=fun k s i=>spec_AddsUpOk.l0 k U.length s i U N) U.length (fun i s=>s=hiL U i) (by omega) (fun s h=>?_) (fun i s hi h=>?_) [] rfl
    · subst h
      refine Ev.succ ?_
      simp only [spec_AddsUpOk.l0]
      repeat(first|((with_reducible refine Ev.ite_pos ?_ ?_);(first|assumption|(focus omega)|(focus (simp;done))))|((with_reducible refine Ev.ite_neg ?_ ?_);(first|assumption|(focus omega)|(focus (simp;done)))))
      refine Ev.eq (Ev.all (n:=U.length) (g:=fun k i=>spec_AddsUpOk.l1 k U.length (hiL U U.length) i U N) (fun a=>allN a fun b=>addT U a b) (go:=true) (stop:=false) (by omega) (fun _=>?_) fun a ha _ R hR=>?_) (by cases allN U.length fun a=>allN a fun b=>addT U a b <;> rfl)
      · refine Ev.succ ?_
        simp only [spec_AddsUpOk.l1]
        repeat(first|((with_reducible refine Ev.ite_pos ?_ ?_);(first|assumption|(focus omega)|(focus (simp;done))))|((with_reducible refine Ev.ite_neg ?_ ?_);(first|assumption|(focus omega)|(focus (simp;done)))))
        exact Ev.now _
      · refine Ev.succ ?_
        simp only [spec_AddsUpOk.l1]
        repeat(first|((with_reducible refine Ev.ite_pos ?_ ?_);(first|assumption|(focus omega)|(focus (simp;done))))|((with_reducible refine Ev.ite_neg ?_ ?_);(first|assumption|(focus omega)|(focus (simp;done)))))
        refine Ev.all (n:=a) (g:=fun k i=>spec_AddsUpOk.l2 k U.length (hiL U U.length) a i U N) _ (by omega) (fun h=>?_) fun b hb' _ R2 hR2=>?_
        · refine Ev.succ ?_
          simp only [spec_AddsUpOk.l2]
          repeat(first|((with_reducible refine Ev.ite_pos ?_ ?_);(first|assumption|(focus omega)|(focus (simp;done))))|((with_reducible refine Ev.ite_neg ?_ ?_);(first|assumption|(focus omega)|(focus (simp;done)))))
          exact hR (allN_iff.2 h)
        · have Ia : In U (a : Int) := ⟨by omega, by omega⟩
          have Ib:In U (b:Int):=⟨by omega,by omega⟩
          have Im:=L.in_and Ia Ib
          have Ij:=L.in_or Ia Ib
          have m0:=Im.1
          have m1:=Im.2
          have j0:=Ij.1
          have j1:=Ij.2
          refine Ev.succ ?_
          simp only [spec_AddsUpOk.l2,hll]
          repeat(first|((with_reducible refine Ev.ite_pos ?_ ?_);(first|assumption|(focus omega)|(focus (simp;done))))|((with_reducible refine Ev.ite_neg ?_ ?_);(first|assumption|(focus omega)|(focus (simp;done)))))
          refine Ev.bind (meet_in L Ia Ib) ?_
          repeat(first|((with_reducible refine Ev.ite_pos ?_ ?_);(first|assumption|(focus omega)|(focus (simp;done))))|((with_reducible refine Ev.ite_neg ?_ ?_);(first|assumption|(focus omega)|(focus (simp;done)))))
          refine Ev.bind (join_in L Ia Ib) ?_
          repeat(first|((with_reducible refine Ev.ite_pos ?_ ?_);(first|assumption|(focus omega)|(focus (simp;done))))|((with_reducible refine Ev.ite_neg ?_ ?_);(first|assumption|(focus omega)|(focus (simp;done)))))
          rw [hiL_rd U Ia,hiL_rd U Ib,hiL_rd U Im,hiL_rd U Ij]
          by_cases e:wrap64 (hiI U a+hiI U b)=wrap64 (hiI U (andI U a b)+hiI U (orI U a b))
          · repeat (first | ((with_reducible refine Ev.ite_pos ?_ ?_); (first | assumption | (focus omega) | (focus (simp; done)))) | ((with_reducible refine Ev.ite_neg ?_ ?_); (first | assumption | (focus omega) | (focus (simp; done)))))
            exact Ev.eq (hR2 (by unfold addT;simp [e])) (by unfold addT;simp [e])
          · repeat (first | ((with_reducible refine Ev.ite_pos ?_ ?_); (first | assumption | (focus omega) | (focus (simp; done)))) | ((with_reducible refine Ev.ite_neg ?_ ?_); (first | assumption | (focus omega) | (focus (simp; done)))))
            exact Ev.eq (Ev.now _) (by unfold addT;simp [e])
    · subst h
      refine⟨_,rfl,fun K=>Ev.succ ?_⟩
      have hl2:=hiL_length U i
      simp only [spec_AddsUpOk.l0]
      repeat(first|((with_reducible refine Ev.ite_pos ?_ ?_);(first|assumption|(focus omega)|(focus (simp;done))))|((with_reducible refine Ev.ite_neg ?_ ?_);(first|assumption|(focus omega)|(focus (simp;done)))))
      refine Ev.bind (spec_high_in O (a:=(i:Int)) ⟨by omega,by omega⟩) ?_
      repeat(first|((with_reducible refine Ev.ite_pos ?_ ?_);(first|assumption|(focus omega)|(focus (simp;done))))|((with_reducible refine Ev.ite_neg ?_ ?_);(first|assumption|(focus omega)|(focus (simp;done)))))
      rw [← hiL_succ]
      exact K
end Go.Proofs.Ytdoomkcgdcfmlaa.Print
end
section
namespace Go.Proofs.Ytdoomkcgdcfmlaa.Print
open Go.RowKit Go.Proofs.YtdoomkcgdcfmlaaW.PrintWords Go.Proofs.YtdoomkcgdcfmlaaW.PrintLast Go.Proofs.YtdoomkcgdcfmlaaW.PrintMore
open Oml
section
variable {U : List (List Int)} {N : List Int} (L : Logic U N)
theorem fin_inj {x y : Fin U.length} : (((x.1 : Nat) : Int) = ((y.1 : Nat) : Int)) ↔ x = y := by
  constructor
  · intro h; exact Fin.ext (by omega)
  · intro h; rw [h]
theorem fin_beq (x y : Fin U.length) : (((x.1 : Nat) : Int) == ((y.1 : Nat) : Int)) = decide (x = y) := by
  rw [Bool.eq_iff_iff, beq_iff_eq, decide_eq_true_eq]; exact fin_inj
theorem and_fin (x y : Fin U.length) : andI U x.1 y.1 = (((L.ol.meet x y).1 : Nat) : Int) := by
  show mI U ((x.1 : Nat) : Int).toNat ((y.1 : Nat) : Int).toNat = _
  unfold mI; rw [Int.toNat_natCast, Int.toNat_natCast, L.mt_eq]; rfl
theorem or_fin (x y : Fin U.length) : orI U x.1 y.1 = (((L.ol.join x y).1 : Nat) : Int) := by
  show jI U ((x.1 : Nat) : Int).toNat ((y.1 : Nat) : Int).toNat = _
  unfold jI; rw [Int.toNat_natCast, Int.toNat_natCast, L.jn_eq]; rfl
theorem le_fin (x y : Fin U.length) : leI U x.1 y.1 = true ↔ L.ol.le x y := by
  show leB U ((x.1 : Nat) : Int).toNat ((y.1 : Nat) : Int).toNat = true ↔ _
  rw [Int.toNat_natCast, Int.toNat_natCast]; rfl
theorem allN_fin {n : Nat} {p : Nat → Bool} : allN n p = true ↔ ∀ x : Fin n, p x.1 = true := by
  rw [allN_iff]
  exact ⟨fun h x => h x.1 x.2, fun h i hi => h ⟨i, hi⟩⟩
end
end Go.Proofs.Ytdoomkcgdcfmlaa.Print
end
section
namespace Go.Proofs.Ytdoomkcgdcfmlaa.Print
open Go.RowKit Go.Proofs.YtdoomkcgdcfmlaaW.PrintWords Go.Proofs.YtdoomkcgdcfmlaaW.PrintLast Go.Proofs.YtdoomkcgdcfmlaaW.PrintMore
open Oml
theorem hiP_ge {U : List (List Int)} {f : Nat → Nat} {a : Nat} : ∀ m i, i < m → i ≠ a → leB U i a = true → f i + 1 ≤ hiP U f a m
  |0,i,h,_,_=>absurd h (Nat.not_lt_zero _)
  | m + 1, i, h, hne, hle => by
    unfold hiP
    by_cases e:i=m
    · subst e
      rw [if_pos ⟨hne,hle⟩]
      split <;> omega
    · have := hiP_ge (f := f) m i (by omega) hne hle
      split
      · split <;> omega
      · exact this
theorem hiP_at {U : List (List Int)} {f : Nat → Nat} {a : Nat} : ∀ m, hiP U f a m ≠ 0 → ∃ i, i < m ∧ i ≠ a ∧ leB U i a = true ∧ hiP U f a m = f i + 1
  |0,h=>absurd rfl h
  | m + 1, h => by
    unfold hiP at h ⊢
    by_cases c:m≠a∧leB U m a=true
    · rw [if_pos c] at h ⊢
      by_cases d:hiP U f a m<f m+1
      · rw [if_pos d]
        exact⟨m,by omega,c.1,c.2,rfl⟩
      · rw [if_neg d] at h ⊢
        obtain⟨i,h1,h2⟩:=hiP_at m h
        exact⟨i,by omega,h2⟩
    · rw [if_neg c] at h ⊢
      obtain⟨i,h1,h2⟩:=hiP_at m h
      exact⟨i,by omega,h2⟩
theorem deep_stable {U : List (List Int)} : ∀ k a, Deep U k a → ∀ j, hiF U (k + j) a = hiF U k a
  |0,a,h,0=>rfl
  | 0, a, h, j + 1 => by
    rw [Nat.zero_add]
    show hiP U (hiF U j) a U.length=0
    exact hiP_none _ (fun b hb hne=>h b hb hne)
  | k + 1, a, h, j => by
    rw [show k+1+j=(k+j)+1 by omega]
    show hiP U (hiF U (k+j)) a U.length=hiP U (hiF U k) a U.length
    exact hiP_congr _ (fun b hb hne hle=>deep_stable k b (h b hb hne hle) j)
section
variable {U : List (List Int)} {N : List Int} (L : Logic U N)
include L
theorem hi_below {a b : Nat} (ha : a < U.length) (hb : b < U.length) (hne : b ≠ a) (hle : leB U b a = true) : hiF U (U.length - 1) b = hiF U U.length b := by
  have h1:=cntB_lt L.toOrder ha hb hne hle
  have h2:cntB U a≤U.length:=by unfold cntB;exact Nat.le_trans (List.length_filter_le _ _) (by simp)
  have h3:=deep_stable _ _ (deep_cnt L.toOrder (U.length - 1) b hb (by omega)) 1
  rw [show U.length - 1+1=U.length by have:=L.pos;omega] at h3
  exact h3.symm
theorem hi_unfold (a : Nat) : hiF U U.length a = hiP U (hiF U (U.length - 1)) a U.length := by
  obtain ⟨m, hm⟩ : ∃ m, U.length = m + 1 := ⟨U.length - 1, by have := L.pos; omega⟩
  rw [hm]
  show hiP U (hiF U m) a U.length = _
  rw [hm]; rfl
theorem hi_high : L.ol.High (hi U) where
  mono := fun x y hxy hne => by
    have hn:x.1≠y.1:=fun e=>hne (Fin.ext e)
    show hiF U U.length x.1<hiF U U.length y.1
    rw [← hi_below L y.2 x.2 hn hxy,hi_unfold L y.1]
    exact hiP_ge _ _ x.2 hn hxy
  step := fun y hy => by
    have hy':hiF U U.length y.1≠0:=hy
    rw [hi_unfold L] at hy'
    obtain⟨i,h1,h2,h3,h4⟩:=hiP_at _ hy'
    refine⟨⟨i,h1⟩,h3,fun e=>h2 (congrArg Fin.val e),?_⟩
    show hiF U U.length i+1=hiF U U.length y.1
    rw [hi_unfold L y.1,h4,hi_below L y.2 h1 h2 h3]
omit L in
theorem hiI_fin (x : Fin U.length) : hiI U ((x.1 : Nat) : Int) = (hi U x : Nat) := by unfold hiI hi; rw [Int.toNat_natCast]
theorem addB_iff : addB U = true ↔ ∀ x y, hi U x + hi U y = hi U (L.ol.meet x y) + hi U (L.ol.join x y) := by
  have hs:=L.small
  have key : ∀ x y : Fin U.length, addT U x.1 y.1 = true ↔ hi U x + hi U y = hi U (L.ol.meet x y) + hi U (L.ol.join x y) := fun x y => by
    unfold addT
    rw [and_fin L,or_fin L,hiI_fin,hiI_fin,hiI_fin,hiI_fin]
    have h1:hi U x≤U.length:=hiF_le U _ _
    have h2:hi U y≤U.length:=hiF_le U _ _
    have h3:hi U (L.ol.meet x y)≤U.length:=hiF_le U _ _
    have h4:hi U (L.ol.join x y)≤U.length:=hiF_le U _ _
    rw [wrap_small (by omega) (by omega),wrap_small (by omega) (by omega),beq_iff_eq]
    omega
  unfold addB
  rw [allN_fin]
  constructor
  · intro h x y
    exact(key x y).1 (allN_fin.1 (h x) y)
  · intro h x
    exact allN_fin.2 fun y=>(key x y).2 (h x y)
theorem modB_iff : modB U = true ↔ L.ol.Modular := by
  unfold modB OL.Modular
  rw [allN_fin]
  constructor
  · intro h a b c hac
    have h1:=allN_fin.1 (h a) c
    rw [(le_fin L a c).2 hac,Bool.not_true,Bool.false_or] at h1
    have h2:=allN_fin.1 h1 b
    unfold modT at h2
    rw [and_fin L,or_fin L,or_fin L,and_fin L,fin_beq,decide_eq_true_eq] at h2
    exact h2
  · intro h a
    refine allN_fin.2 fun c=>?_
    cases hac:leI U ((a.1:Nat):Int) ((c.1:Nat):Int) with
    |false=>rfl
    | true =>
      rw [Bool.not_true,Bool.false_or]
      refine allN_fin.2 fun b=>?_
      unfold modT
      rw [and_fin L,or_fin L,or_fin L,and_fin L,fin_beq,decide_eq_true_eq]
      exact h a b c ((le_fin L a c).1 hac)
theorem add_mod : addB U = modB U := by
  rw [Bool.eq_iff_iff, addB_iff L, modB_iff L]
  exact (OL.modular_iff_adds (hi_high L)).symm
end
end Go.Proofs.Ytdoomkcgdcfmlaa.Print
end
section
namespace Go.Proofs.Ytdoomkcgdcfmlaa.Print
open Go.RowKit Go.Proofs.YtdoomkcgdcfmlaaW.PrintWords Go.Proofs.YtdoomkcgdcfmlaaW.PrintLast Go.Proofs.YtdoomkcgdcfmlaaW.PrintMore
open Oml
theorem drawAddsUpOk_ev {l : List Int} (h : Bytes l) : ∃ V M, Ev (fun k => spec_DrawAddsUpOk.f k l) (V, M) := by
  obtain⟨b,hb,hbl,ho⟩:=open_ev h
  obtain⟨V,M,q,hd,_,_⟩:=logic_ev hb hbl (p:=0) (by omega) (by omega) 9
  exact⟨V,M,by unfold spec_DrawAddsUpOk.f;exact Ev.pbind ho (Ev.bind hd (Ev.now _))⟩
theorem laws_FnAddsUpOk.ev (l : List Int) (h : Bytes l) : Ev (fun k => laws_FnAddsUpOk.f k l) true := by
  unfold laws_FnAddsUpOk.f
  by_cases hl:(l.length:Int)>1048576
  · exact Ev.ite_pos hl (Ev.now _)
  refine Ev.ite_neg hl ?_
  obtain⟨V,M,hd⟩:=drawAddsUpOk_ev h
  refine Ev.bind hd (Ev.pbind rfl (Ev.bind (spec_AddsUpOk.ev V M) ?_))
  dsimp only
  refine Ev.ite_neg (by simp) (Ev.pbind rfl ?_)
  refine Ev.ite_pos ?_ (Ev.bind alive_ok (Ev.now _))
  cases hg:logicB V M with
  |false=>rfl
  |true=>rw [if_pos rfl,if_pos rfl,add_mod (logicB_iff.1 hg)];simp
end Go.Proofs.Ytdoomkcgdcfmlaa.Print
namespace Go.Proofs.Ytdoomkcgdcfmlaa.Pure
open Go.RowKit Go.Proofs.Ytdoomkcgdcfmlaa.Print Go.Proofs.YtdoomkcgdcfmlaaW.PrintWords Go.Proofs.YtdoomkcgdcfmlaaW.PrintLast Go.Proofs.YtdoomkcgdcfmlaaW.PrintMore
theorem FnAddsUpOk : laws_FnAddsUpOk.Pure := fun l _ _ hw => (laws_FnAddsUpOk.ev l fun x hx => by
  have:=hw x hx
  first|exact Go.RowKit.bounds_u8 this|exact Go.ChangeShapes.bounds_u8 this|exact bounds_u8 this|(simp [Lit.wf,IntKind.wf] at this;omega)|(simp [Lit.wf] at this;omega)).rounds
end Go.Proofs.Ytdoomkcgdcfmlaa.Pure
end
