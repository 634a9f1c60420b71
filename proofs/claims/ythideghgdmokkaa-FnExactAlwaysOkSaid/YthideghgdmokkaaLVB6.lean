/- Part 6 of what is common to several claims of this seat: SameOkL, AlwaysOkL. -/
import Derived.Test.YthideghgdmokkaaLVB5
import Derived.Below
import Derived.Deep.Draws
import Derived.Deep.AppendLies
import Derived.Maps.AppendAt
import Derived.OwnWalk
import Derived.Laws.BytesArg
import Derived.Laws.MakeOwn
import Derived.Laws.OwnMore
import Derived.Deep.OwnRows
import Derived.Tactics
import Derived.Lib.ConvBytes
import Derived.Laws.Slices
import Derived.WalkKit
import Derived.KernelRfl
import Derived.RowKit3
import Derived.Deep.LoopGhost
import Derived.Deep.QuietTactic
import Derived.BigQuiet
import Derived.WideLaws
import Derived.Deep.DeepCutAuto
import Derived.Deep.CutBlock
import Derived.Deep.RegionHeld3
import Derived.Laws.Rows
import Derived.Lib.AppendStr
import Derived.ArgAppend
import Derived.Laws.IdiomCopy
import Derived.RowKit
import Derived.OrdersHeld
import Derived.Laws.BitsLemmas
import Derived.Test.YthideghgdmokkaaProg
import Derived.Deep.Matrix
import Derived.Lib.SmallJoins
section
namespace Go.Proofs.Ythideghgdmokkaa.Print
open Go.RowKit Go.Proofs.YthideghgdmokkaaW.PrintWords Go.Proofs.YthideghgdmokkaaW.PrintLast Go.Proofs.YthideghgdmokkaaW.PrintMore
attribute [local go_sem] max2_int min2_int max_two min_two max_three min_three max_four min_four   -- for this text's walks alone
set_option linter.unusedVariables false
set_option linter.unusedSimpArgs false
mutual
def spec_LogicOk.j0 : Nat → Int → Bool → List (List Int) → List Int → Option (Bool)
 | 0, _, _, _, _ => none
 | k + 1, x3, x22, x155000, x155001 => if x22 = true then (some false) else (spec_LogicOk.l0 k x3 0 x155000 x155001)
def spec_LogicOk.l0 : Nat → Int → Int → List (List Int) → List Int → Option (Bool)
 | 0, _, _, _, _ => none
 | k + 1, x3, x4, x155000, x155001 => if x4 < x3 then (if 0 ≤ x4 then (if x4 < (x155001.length : Int) then ((spec_l1In.f (rd x155001 x4) 0 (wrap64 (x3 - 1))).bind fun t157 => (if t157 = true then (spec_LogicOk.l0 k x3 (wrap64 (x4 + 1)) x155000 x155001) else (some false))) else (none)) else (none)) else ((spec_LeastOf.f k x155000).bind fun bt158 => (spec_LogicOk.l1 k x3 bt158.1 0 x155000 x155001))
def spec_LogicOk.l1 : Nat → Int → Int → Int → List (List Int) → List Int → Option (Bool)
 | 0, _, _, _, _, _ => none
 | k + 1, x3, x5, x7, x155000, x155001 => if x7 < x3 then (if 0 ≤ x7 then (if x7 < (x155001.length : Int) then (if 0 ≤ (rd x155001 x7) then (if (rd x155001 x7) < (x155001.length : Int) then (if (rd x155001 (rd x155001 x7)) = x7 then ((spec_l1Meet.f k x155000 x7 (rd x155001 x7)).bind fun t163 => (spec_LogicOk.j3 k x3 x5 x7 (t163 != x5) x155000 x155001)) else (spec_LogicOk.j3 k x3 x5 x7 true x155000 x155001)) else (none)) else (none)) else (none)) else (none)) else (some true)
def spec_LogicOk.j3 : Nat → Int → Int → Int → Bool → List (List Int) → List Int → Option (Bool)
 | 0, _, _, _, _, _, _ => none
 | k + 1, x3, x5, x7, x71, x155000, x155001 => if x71 = true then (some false) else (spec_LogicOk.l2 k x3 x5 x7 0 x155000 x155001)
def spec_LogicOk.l2 : Nat → Int → Int → Int → Int → List (List Int) → List Int → Option (Bool)
 | 0, _, _, _, _, _, _ => none
 | k + 1, x3, x5, x7, x8, x155000, x155001 => if x8 < x3 then (if 0 ≤ x7 then (if x7 < (x155000.length : Int) then (if 0 ≤ x8 then (if x8 < ((rd_L1 x155000 x7).length : Int) then (if (rd (rd_L1 x155000 x7) x8) = 1 then (if x8 < (x155001.length : Int) then (if 0 ≤ (rd x155001 x8) then (if (rd x155001 x8) < (x155000.length : Int) then (if x7 < (x155001.length : Int) then (if 0 ≤ (rd x155001 x7) then (if (rd x155001 x7) < ((rd_L1 x155000 (rd x155001 x8)).length : Int) then (if (rd (rd_L1 x155000 (rd x155001 x8)) (rd x155001 x7)) = 0 then (some false) else (spec_LogicOk.l2 k x3 x5 x7 (wrap64 (x8 + 1)) x155000 x155001)) else (none)) else (none)) else (none)) else (none)) else (none)) else (none)) else (spec_LogicOk.l2 k x3 x5 x7 (wrap64 (x8 + 1)) x155000 x155001)) else (none)) else (none)) else (none)) else (none)) else (spec_LogicOk.l1 k x3 x5 (wrap64 (x7 + 1)) x155000 x155001)
end
def spec_LogicOk.f (k : Nat) (l0_0 : List (List Int)) (l0_1 : List Int) : Option (Bool) := (spec_LatticeOk.f k l0_0).bind fun t155 => (if t155 = true then (spec_LogicOk.j0 k (l0_0.length : Int) ((l0_1.length : Int) != (l0_0.length : Int)) l0_0 l0_1) else (spec_LogicOk.j0 k (l0_0.length : Int) true l0_0 l0_1))
set_option maxHeartbeats 8000000 in
set_option maxRecDepth 100000 in
theorem spec_LogicOk.calls (k : Nat) (A0_0 : Option Addr) (c0_0 : Nat) (l0_0 : List (List Int)) (A0_1 : Option Addr) (c0_1 : Nat) (l0_1 : List Int) (r : Bool) (w : World) (hr0_0 : Kd.C (Kd.slice 3 (Kd.int .i64)) w A0_0 l0_0.length l0_0) (hc0_0 : l0_0.length ≤ c0_0) (hr0_1 : Kd.C (Kd.int .i64) w A0_1 l0_1.length l0_1) (hc0_1 : l0_1.length ≤ c0_1) (h : spec_LogicOk.f k l0_0 l0_1 = some r) :
  Calls Try.prog 51 #[.agg #[.slice A0_0 l0_0.length c0_0, .slice A0_1 l0_1.length c0_1]] w fun e w' => e = .returned (.bool r) ∧ Below w.heap.size w w' := by
 have hu28 := Try.underlying28
 have HR0_0 := Aside0.mk hr0_0
 have HC0_0 := Aside0.mk hc0_0
 clear hr0_0 hc0_0
 have HR0_1 := Aside0.mk hr0_1
 have HC0_1 := Aside0.mk hc0_1
 clear hr0_1 hc0_1
 have HB := Aside0.mk (Below.refl w.heap.size w)
 have H : ((spec_LatticeOk.f k l0_0).bind fun t155 => (if t155 = true then (spec_LogicOk.j0 k (l0_0.length : Int) ((l0_1.length : Int) != (l0_0.length : Int)) l0_0 l0_1) else (spec_LogicOk.j0 k (l0_0.length : Int) true l0_0 l0_1))) = some r := h
 clear h
 have HC2 := Aside0.mk H
 clear H
 go_enter Try.func51, Try.ntmps51
 go_upto_region 2 with (first | ((with_reducible refine gate_dst (N := 1) rfl ?_); (try (refine gate_guard (by rfl) ?_; dsimp only)); refine box_event ?hg (N := 1) ?hd (cs := #[.slice A0_0 l0_0.length c0_0, .slice A0_1 l0_1.length c0_1]) (t := 28) ?hr ?_; (case hd => rfl); (case hg => rfl); (case hr => first | (go_simp; done) | (go_simp; rfl)); intro gb154 hg w3 hbox hb; have n0_ := Aside0.mk (below_step (by repeat (first | (with_reducible first | exact HB.out | apply below_alloc | apply pw_below_drewN | apply below_drew1) | exact HB.out)) hb); have n1_ := Aside0.mk (hbox); have n2_ := Aside0.mk ((by rw [hg]; exact (below_size (by repeat (first | (with_reducible first | exact HB.out | apply below_alloc | apply pw_below_drewN | apply below_drew1) | exact HB.out))) : w.heap.size ≤ gb154)); have n3_ := Aside0.mk ((by rw [hg]; exact (below_size (by repeat (first | (with_reducible first | exact HB.out | apply below_alloc | apply pw_below_drewN | apply below_drew1) | exact HB.out))) : w.heap.size ≤ gb154)); clear HB; have HB := n0_; have BK154 := n1_; have GW154 := n2_; have GE154 := n3_; clear n0_ n1_ n2_ n3_; clear hb hbox hg; have hcz4_0 : w3.cell? ⟨gb154, 0, none⟩ = some (.slice A0_0 l0_0.length c0_0) := (blk_cell BK154.out 0).trans rfl; have hcz4_1 : w3.cell? ⟨gb154, 1, none⟩ = some (.slice A0_1 l0_1.length c0_1) := (blk_cell BK154.out 1).trans rfl; have hfz4_0 := blk_frozen BK154.out 0; have hfz4_1 := blk_frozen BK154.out 1))
 repeat (go_quiet (first | ((with_reducible refine gate_dst (N := 1) rfl ?_); (try (refine gate_guard (by rfl) ?_; dsimp only)); refine box_event ?hg (N := 1) ?hd (cs := #[.slice A0_0 l0_0.length c0_0, .slice A0_1 l0_1.length c0_1]) (t := 28) ?hr ?_; (case hd => rfl); (case hg => rfl); (case hr => first | (go_simp; done) | (go_simp; rfl)); intro gb154 hg w3 hbox hb; have n0_ := Aside0.mk (below_step (by repeat (first | (with_reducible first | exact HB.out | apply below_alloc | apply pw_below_drewN | apply below_drew1) | exact HB.out)) hb); have n1_ := Aside0.mk (hbox); have n2_ := Aside0.mk ((by rw [hg]; exact (below_size (by repeat (first | (with_reducible first | exact HB.out | apply below_alloc | apply pw_below_drewN | apply below_drew1) | exact HB.out))) : w.heap.size ≤ gb154)); have n3_ := Aside0.mk ((by rw [hg]; exact (below_size (by repeat (first | (with_reducible first | exact HB.out | apply below_alloc | apply pw_below_drewN | apply below_drew1) | exact HB.out))) : w.heap.size ≤ gb154)); clear HB; have HB := n0_; have BK154 := n1_; have GW154 := n2_; have GE154 := n3_; clear n0_ n1_ n2_ n3_; clear hb hbox hg; have hcz4_0 : w3.cell? ⟨gb154, 0, none⟩ = some (.slice A0_0 l0_0.length c0_0) := (blk_cell BK154.out 0).trans rfl; have hcz4_1 : w3.cell? ⟨gb154, 1, none⟩ = some (.slice A0_1 l0_1.length c0_1) := (blk_cell BK154.out 1).trans rfl; have hfz4_0 := blk_frozen BK154.out 0; have hfz4_1 := blk_frozen BK154.out 1)); go_upto_region 2 with (first | ((with_reducible refine gate_dst (N := 1) rfl ?_); (try (refine gate_guard (by rfl) ?_; dsimp only)); refine box_event ?hg (N := 1) ?hd (cs := #[.slice A0_0 l0_0.length c0_0, .slice A0_1 l0_1.length c0_1]) (t := 28) ?hr ?_; (case hd => rfl); (case hg => rfl); (case hr => first | (go_simp; done) | (go_simp; rfl)); intro gb154 hg w3 hbox hb; have n0_ := Aside0.mk (below_step (by repeat (first | (with_reducible first | exact HB.out | apply below_alloc | apply pw_below_drewN | apply below_drew1) | exact HB.out)) hb); have n1_ := Aside0.mk (hbox); have n2_ := Aside0.mk ((by rw [hg]; exact (below_size (by repeat (first | (with_reducible first | exact HB.out | apply below_alloc | apply pw_below_drewN | apply below_drew1) | exact HB.out))) : w.heap.size ≤ gb154)); have n3_ := Aside0.mk ((by rw [hg]; exact (below_size (by repeat (first | (with_reducible first | exact HB.out | apply below_alloc | apply pw_below_drewN | apply below_drew1) | exact HB.out))) : w.heap.size ≤ gb154)); clear HB; have HB := n0_; have BK154 := n1_; have GW154 := n2_; have GE154 := n3_; clear n0_ n1_ n2_ n3_; clear hb hbox hg; have hcz4_0 : w3.cell? ⟨gb154, 0, none⟩ = some (.slice A0_0 l0_0.length c0_0) := (blk_cell BK154.out 0).trans rfl; have hcz4_1 : w3.cell? ⟨gb154, 1, none⟩ = some (.slice A0_1 l0_1.length c0_1) := (blk_cell BK154.out 1).trans rfl; have hfz4_0 := blk_frozen BK154.out 0; have hfz4_1 := blk_frozen BK154.out 1)))
 (try simp only [Act.put, List.setIfInBounds_toArray, List.set_cons_zero, List.set_cons_succ])
 go_cut [22] (fun v22 wc => ∃ (kq : Nat) (x22_1 : Bool), v22 = .bool x22_1 ∧ Aside0 (spec_LogicOk.j0 kq (l0_0.length : Int) x22_1 l0_0 l0_1 = some r) ∧ Aside0 (kq ≤ k) ∧ Aside0 (wc.heap[gb154]? = some (.cells #[(.slice A0_0 l0_0.length c0_0), (.slice A0_1 l0_1.length c0_1)] 28 (0, 0))) ∧ Aside0 (Below w.heap.size w wc))
 case first =>
  have H := HC2.out
  clear HC2
  replace H := Option.bind_eq_some_iff.mp H
  obtain ⟨t155, A50, H⟩ := H
  replace H : (if t155 = true then (spec_LogicOk.j0 k (l0_0.length : Int) ((l0_1.length : Int) != (l0_0.length : Int)) l0_0 l0_1) else (spec_LogicOk.j0 k (l0_0.length : Int) true l0_0 l0_1)) = some r := H
  have A5 := Aside0.mk A50
  clear A50
  by_cases c6 : t155 = true
  ·subst c6
   have H1 : (spec_LogicOk.j0 k (l0_0.length : Int) ((l0_1.length : Int) != (l0_0.length : Int)) l0_0 l0_1) = some r := by rw [if_pos rfl] at H; exact H
   clear H
   have H := H1
   clear H1
   have H' := Aside0.mk H
   clear H
   have hcz7_0 : w3.cell? ⟨gb154, 0, none⟩ = some (.slice A0_0 l0_0.length c0_0) := (blk_cell BK154.out 0).trans rfl
   have hcz7_1 : w3.cell? ⟨gb154, 1, none⟩ = some (.slice A0_1 l0_1.length c0_1) := (blk_cell BK154.out 1).trans rfl
   have hfz7_0 := blk_frozen BK154.out 0
   have hfz7_1 := blk_frozen BK154.out 1
   go_wp2_with (first | (go_at_call 99; (with_reducible refine (spec_LatticeOk.calls k _ _ l0_0 true _ ?side1 ?side2 A5.out).mono ?_); (case side1 => repeat (first | exact (Kd.C_below HR0_0.out HB.out) | (with_reducible refine Kd.C_alloc ?_ _) | (with_reducible refine Kd.C_drewN ?_ _) | (with_reducible refine Kd.C_drew ?_))); (case side2 => exact HC0_0.out); rintro e w' ⟨rfl, ⟨nd, rfl⟩⟩; (try first | exact ⟨rfl, _, World.drewN_drewN _ _ _⟩ | exact ⟨rfl, _, Eq.trans (World.drewN_drewN _ _ _) (congrArg (World.drewN _) (Nat.add_assoc _ _ _))⟩)))
   repeat (go_quiet (first | (go_at_call 99; (with_reducible refine (spec_LatticeOk.calls k _ _ l0_0 true _ ?side1 ?side2 A5.out).mono ?_); (case side1 => repeat (first | exact (Kd.C_below HR0_0.out HB.out) | (with_reducible refine Kd.C_alloc ?_ _) | (with_reducible refine Kd.C_drewN ?_ _) | (with_reducible refine Kd.C_drew ?_))); (case side2 => exact HC0_0.out); rintro e w' ⟨rfl, ⟨nd, rfl⟩⟩; (try first | exact ⟨rfl, _, World.drewN_drewN _ _ _⟩ | exact ⟨rfl, _, Eq.trans (World.drewN_drewN _ _ _) (congrArg (World.drewN _) (Nat.add_assoc _ _ _))⟩))); try go_wp2_with (first | (go_at_call 99; (with_reducible refine (spec_LatticeOk.calls k _ _ l0_0 true _ ?side1 ?side2 A5.out).mono ?_); (case side1 => repeat (first | exact (Kd.C_below HR0_0.out HB.out) | (with_reducible refine Kd.C_alloc ?_ _) | (with_reducible refine Kd.C_drewN ?_ _) | (with_reducible refine Kd.C_drew ?_))); (case side2 => exact HC0_0.out); rintro e w' ⟨rfl, ⟨nd, rfl⟩⟩; (try first | exact ⟨rfl, _, World.drewN_drewN _ _ _⟩ | exact ⟨rfl, _, Eq.trans (World.drewN_drewN _ _ _) (congrArg (World.drewN _) (Nat.add_assoc _ _ _))⟩))))
   go_meet
   case rel => exact ⟨_, (((l0_1.length : Int) != (l0_0.length : Int))), (by first | rfl | (simp; done) | (simp [*]; done)), H', ⟨by first | omega | exact Nat.le_refl _⟩, ⟨by (with_reducible repeat (first | refine blk_drewN ?_ _ | refine blk_drew ?_ | refine blk_alloc ?_ _)); exact BK154.out⟩, ⟨by repeat (first | (with_reducible first | exact HB.out | apply below_alloc | apply pw_below_drewN | apply below_drew1 | refine below_set ?_ GE154.out) | exact HB.out)⟩⟩
  ·replace c6 := Bool.eq_false_iff.mpr c6
   subst c6
   have H1 : (spec_LogicOk.j0 k (l0_0.length : Int) true l0_0 l0_1) = some r := by rw [if_neg (show ¬ (false = true) by decide)] at H; exact H
   clear H
   have H := H1
   clear H1
   have H' := Aside0.mk H
   clear H
   have hcz8_0 : w3.cell? ⟨gb154, 0, none⟩ = some (.slice A0_0 l0_0.length c0_0) := (blk_cell BK154.out 0).trans rfl
   have hcz8_1 : w3.cell? ⟨gb154, 1, none⟩ = some (.slice A0_1 l0_1.length c0_1) := (blk_cell BK154.out 1).trans rfl
   have hfz8_0 := blk_frozen BK154.out 0
   have hfz8_1 := blk_frozen BK154.out 1
   go_wp2_with (first | (go_at_call 99; (with_reducible refine (spec_LatticeOk.calls k _ _ l0_0 false _ ?side1 ?side2 A5.out).mono ?_); (case side1 => repeat (first | exact (Kd.C_below HR0_0.out HB.out) | (with_reducible refine Kd.C_alloc ?_ _) | (with_reducible refine Kd.C_drewN ?_ _) | (with_reducible refine Kd.C_drew ?_))); (case side2 => exact HC0_0.out); rintro e w' ⟨rfl, ⟨nd, rfl⟩⟩; (try first | exact ⟨rfl, _, World.drewN_drewN _ _ _⟩ | exact ⟨rfl, _, Eq.trans (World.drewN_drewN _ _ _) (congrArg (World.drewN _) (Nat.add_assoc _ _ _))⟩)))
   repeat (go_quiet (first | (go_at_call 99; (with_reducible refine (spec_LatticeOk.calls k _ _ l0_0 false _ ?side1 ?side2 A5.out).mono ?_); (case side1 => repeat (first | exact (Kd.C_below HR0_0.out HB.out) | (with_reducible refine Kd.C_alloc ?_ _) | (with_reducible refine Kd.C_drewN ?_ _) | (with_reducible refine Kd.C_drew ?_))); (case side2 => exact HC0_0.out); rintro e w' ⟨rfl, ⟨nd, rfl⟩⟩; (try first | exact ⟨rfl, _, World.drewN_drewN _ _ _⟩ | exact ⟨rfl, _, Eq.trans (World.drewN_drewN _ _ _) (congrArg (World.drewN _) (Nat.add_assoc _ _ _))⟩))); try go_wp2_with (first | (go_at_call 99; (with_reducible refine (spec_LatticeOk.calls k _ _ l0_0 false _ ?side1 ?side2 A5.out).mono ?_); (case side1 => repeat (first | exact (Kd.C_below HR0_0.out HB.out) | (with_reducible refine Kd.C_alloc ?_ _) | (with_reducible refine Kd.C_drewN ?_ _) | (with_reducible refine Kd.C_drew ?_))); (case side2 => exact HC0_0.out); rintro e w' ⟨rfl, ⟨nd, rfl⟩⟩; (try first | exact ⟨rfl, _, World.drewN_drewN _ _ _⟩ | exact ⟨rfl, _, Eq.trans (World.drewN_drewN _ _ _) (congrArg (World.drewN _) (Nat.add_assoc _ _ _))⟩))))
   go_meet
   case rel => exact ⟨_, (true), (by first | rfl | (simp; done) | (simp [*]; done)), H', ⟨by first | omega | exact Nat.le_refl _⟩, ⟨by (with_reducible repeat (first | refine blk_drewN ?_ _ | refine blk_drew ?_ | refine blk_alloc ?_ _)); exact BK154.out⟩, ⟨by repeat (first | (with_reducible first | exact HB.out | apply below_alloc | apply pw_below_drewN | apply below_drew1 | refine below_set ?_ GE154.out) | exact HB.out)⟩⟩
 case rest =>
  clear HC2
  try clear p2
  try clear c5
  try clear c6
  try clear hcz4_0
  try clear hcz4_1
  try clear hcz7_0
  try clear hcz7_1
  try clear hcz8_0
  try clear hcz8_1
  try clear hfz4_0
  try clear hfz4_1
  try clear hfz7_0
  try clear hfz7_1
  try clear hfz8_0
  try clear hfz8_1
  obtain ⟨kq, x22_1, rfl, HA, HJ1, BK154, HB⟩ := hcut
  cases kq with
  | zero => exact absurd HA.out (by simp [spec_LogicOk.j0])
  | succ kj1 =>
   have H := HA.out
   clear HA
   simp only [spec_LogicOk.j0] at H
   by_cases c9 : x22_1 = true
   ·subst c9
    have H1 : (some false) = some r := by rw [if_pos rfl] at H; exact H
    clear H
    have H := H1
    clear H1
    obtain rfl := Option.some.inj H
    go_wp2
    repeat (go_quiet (fail); try go_wp2)
    go_ret
    exact ⟨by first | rfl | (simp [errW_none, errW_some] <;> rfl) | (simp [*, errW_none, errW_some] <;> rfl), by repeat (first | (with_reducible first | exact HB.out | apply below_alloc | apply pw_below_drewN | apply below_drew1 | refine below_set ?_ GE154.out) | exact HB.out)⟩
   ·replace c9 := Bool.eq_false_iff.mpr c9
    subst c9
    have H1 : (spec_LogicOk.l0 kj1 (l0_0.length : Int) 0 l0_0 l0_1) = some r := by rw [if_neg (show ¬ (false = true) by decide)] at H; exact H
    clear H
    have H := H1
    clear H1
    have H' := Aside0.mk H
    clear H
    go_wp2
    repeat (go_quiet (fail); try go_wp2)
    go_loopg [4] kj1 (fun kq v4 w' => ∃ (x4_2 : Int), v4 = .int .i64 x4_2 ∧ Aside0 (spec_LogicOk.l0 kq (l0_0.length : Int) x4_2 l0_0 l0_1 = some r) ∧ Aside0 (kq ≤ kj1) ∧ Aside0 (w'.heap[gb154]? = some (.cells #[(.slice A0_0 l0_0.length c0_0), (.slice A0_1 l0_1.length c0_1)] 28 (0, 0))) ∧ Aside0 (Below w.heap.size w w'))
    case atStart => exact ⟨(0), (by first | rfl | (simp; done) | (simp [*]; done)), H', ⟨Nat.le_refl _⟩, ⟨by (with_reducible repeat (first | refine blk_drewN ?_ _ | refine blk_drew ?_ | refine blk_alloc ?_ _)); exact BK154.out⟩, ⟨by repeat (first | (with_reducible first | exact HB.out | apply below_alloc | apply pw_below_drewN | apply below_drew1 | refine below_set ?_ GE154.out) | exact HB.out)⟩⟩
    case round =>
     clear H'
     try clear p2
     try clear c5
     try clear c6
     try clear c9
     try clear hcz4_0
     try clear hcz4_1
     try clear hcz7_0
     try clear hcz7_1
     try clear hcz8_0
     try clear hcz8_1
     try clear hfz4_0
     try clear hfz4_1
     try clear hfz7_0
     try clear hfz7_1
     try clear hfz8_0
     try clear hfz8_1
     try clear p2
     obtain ⟨x4_2, rfl, HA, HK2, BK154, HB⟩ := hrel
     cases gk with
     | zero => exact absurd HA.out (by simp [spec_LogicOk.l0])
     | succ k2 =>
      have H := HA.out
      clear HA
      simp only [spec_LogicOk.l0] at H
      by_cases c10 : x4_2 < (l0_0.length : Int)
      ·rw [if_pos c10] at H
       have c10b0 : decide (x4_2 < (l0_0.length : Int)) = true := decide_eq_true c10
       clear c10
       by_cases c11 : 0 ≤ x4_2
       ·rw [if_pos c11] at H
        have c11b0 : decide (0 ≤ x4_2) = true := decide_eq_true c11
        clear c11
        by_cases c12 : x4_2 < (l0_1.length : Int)
        ·rw [if_pos c12] at H
         have c12b0 : decide (x4_2 < (l0_1.length : Int)) = true := decide_eq_true c12
         clear c12
         replace H := Option.bind_eq_some_iff.mp H
         obtain ⟨t157, A130, H⟩ := H
         replace H : (if t157 = true then (spec_LogicOk.l0 k2 (l0_0.length : Int) (wrap64 (x4_2 + 1)) l0_0 l0_1) else (some false)) = some r := H
         have A13 := Aside0.mk A130
         clear A130
         by_cases c14 : t157 = true
         ·subst c14
          have H1 : (spec_LogicOk.l0 k2 (l0_0.length : Int) (wrap64 (x4_2 + 1)) l0_0 l0_1) = some r := by rw [if_pos rfl] at H; exact H
          clear H
          have H := H1
          clear H1
          have H' := Aside0.mk H
          clear H
          have hcz15_0 : wr.cell? ⟨gb154, 0, none⟩ = some (.slice A0_0 l0_0.length c0_0) := (blk_cell BK154.out 0).trans rfl
          have hcz15_1 : wr.cell? ⟨gb154, 1, none⟩ = some (.slice A0_1 l0_1.length c0_1) := (blk_cell BK154.out 1).trans rfl
          have hfz15_0 := blk_frozen BK154.out 0
          have hfz15_1 := blk_frozen BK154.out 1
          have p156 : 0 ≤ (x4_2 : Int) := of_decide_eq_true (by first | (with_reducible assumption) | assumption)
          have q156 : x4_2 < (l0_1.length : Int) := of_decide_eq_true (by first | (with_reducible assumption) | assumption)
          obtain ⟨ad156, e156, hx156_0⟩ := Kd.at_int HR0_1.out x4_2 p156 q156
          cases e156
          replace hx156_0 := (HB.out.cell (World.block_lt_of_cell? w _ hx156_0)).trans hx156_0
          replace p156 := eq_true p156
          replace q156 := eq_true q156
          go_wp2_with (first | (go_at_call 52; (with_reducible refine (spec_l1In.calls (rd l0_1 x4_2) 0 (wrap64 ((l0_0.length : Int) - 1)) true _ A13.out).mono ?_); rintro e w' ⟨rfl, ⟨nd, rfl⟩⟩; (try first | exact ⟨rfl, _, World.drewN_drewN _ _ _⟩ | exact ⟨rfl, _, Eq.trans (World.drewN_drewN _ _ _) (congrArg (World.drewN _) (Nat.add_assoc _ _ _))⟩)))
          repeat (go_quiet (first | (go_at_call 52; (with_reducible refine (spec_l1In.calls (rd l0_1 x4_2) 0 (wrap64 ((l0_0.length : Int) - 1)) true _ A13.out).mono ?_); rintro e w' ⟨rfl, ⟨nd, rfl⟩⟩; (try first | exact ⟨rfl, _, World.drewN_drewN _ _ _⟩ | exact ⟨rfl, _, Eq.trans (World.drewN_drewN _ _ _) (congrArg (World.drewN _) (Nat.add_assoc _ _ _))⟩))); try go_wp2_with (first | (go_at_call 52; (with_reducible refine (spec_l1In.calls (rd l0_1 x4_2) 0 (wrap64 ((l0_0.length : Int) - 1)) true _ A13.out).mono ?_); rintro e w' ⟨rfl, ⟨nd, rfl⟩⟩; (try first | exact ⟨rfl, _, World.drewN_drewN _ _ _⟩ | exact ⟨rfl, _, Eq.trans (World.drewN_drewN _ _ _) (congrArg (World.drewN _) (Nat.add_assoc _ _ _))⟩))))
          go_roundg k2
          case measure => have := HJ1.out; have := HK2.out; omega
          case rel => exact ⟨(wrap64 (x4_2 + 1)), (by first | rfl | (simp; done) | (simp [*]; done)), H', ⟨by have := HJ1.out; have := HK2.out; omega⟩, ⟨by (with_reducible repeat (first | refine blk_drewN ?_ _ | refine blk_drew ?_ | refine blk_alloc ?_ _)); exact BK154.out⟩, ⟨by repeat (first | (with_reducible first | exact HB.out | apply below_alloc | apply pw_below_drewN | apply below_drew1 | refine below_set ?_ GE154.out) | exact HB.out)⟩⟩
         ·replace c14 := Bool.eq_false_iff.mpr c14
          subst c14
          have H1 : (some false) = some r := by rw [if_neg (show ¬ (false = true) by decide)] at H; exact H
          clear H
          have H := H1
          clear H1
          obtain rfl := Option.some.inj H
          have hcz16_0 : wr.cell? ⟨gb154, 0, none⟩ = some (.slice A0_0 l0_0.length c0_0) := (blk_cell BK154.out 0).trans rfl
          have hcz16_1 : wr.cell? ⟨gb154, 1, none⟩ = some (.slice A0_1 l0_1.length c0_1) := (blk_cell BK154.out 1).trans rfl
          have hfz16_0 := blk_frozen BK154.out 0
          have hfz16_1 := blk_frozen BK154.out 1
          have p156 : 0 ≤ (x4_2 : Int) := of_decide_eq_true (by first | (with_reducible assumption) | assumption)
          have q156 : x4_2 < (l0_1.length : Int) := of_decide_eq_true (by first | (with_reducible assumption) | assumption)
          obtain ⟨ad156, e156, hx156_0⟩ := Kd.at_int HR0_1.out x4_2 p156 q156
          cases e156
          replace hx156_0 := (HB.out.cell (World.block_lt_of_cell? w _ hx156_0)).trans hx156_0
          replace p156 := eq_true p156
          replace q156 := eq_true q156
          go_wp2_with (first | (go_at_call 52; (with_reducible refine (spec_l1In.calls (rd l0_1 x4_2) 0 (wrap64 ((l0_0.length : Int) - 1)) false _ A13.out).mono ?_); rintro e w' ⟨rfl, ⟨nd, rfl⟩⟩; (try first | exact ⟨rfl, _, World.drewN_drewN _ _ _⟩ | exact ⟨rfl, _, Eq.trans (World.drewN_drewN _ _ _) (congrArg (World.drewN _) (Nat.add_assoc _ _ _))⟩)))
          repeat (go_quiet (first | (go_at_call 52; (with_reducible refine (spec_l1In.calls (rd l0_1 x4_2) 0 (wrap64 ((l0_0.length : Int) - 1)) false _ A13.out).mono ?_); rintro e w' ⟨rfl, ⟨nd, rfl⟩⟩; (try first | exact ⟨rfl, _, World.drewN_drewN _ _ _⟩ | exact ⟨rfl, _, Eq.trans (World.drewN_drewN _ _ _) (congrArg (World.drewN _) (Nat.add_assoc _ _ _))⟩))); try go_wp2_with (first | (go_at_call 52; (with_reducible refine (spec_l1In.calls (rd l0_1 x4_2) 0 (wrap64 ((l0_0.length : Int) - 1)) false _ A13.out).mono ?_); rintro e w' ⟨rfl, ⟨nd, rfl⟩⟩; (try first | exact ⟨rfl, _, World.drewN_drewN _ _ _⟩ | exact ⟨rfl, _, Eq.trans (World.drewN_drewN _ _ _) (congrArg (World.drewN _) (Nat.add_assoc _ _ _))⟩))))
          go_ret
          exact ⟨by first | rfl | (simp [errW_none, errW_some] <;> rfl) | (simp [*, errW_none, errW_some] <;> rfl), by repeat (first | (with_reducible first | exact HB.out | apply below_alloc | apply pw_below_drewN | apply below_drew1 | refine below_set ?_ GE154.out) | exact HB.out)⟩
        ·rw [if_neg c12] at H
         exact absurd H (by simp)
       ·rw [if_neg c11] at H
        exact absurd H (by simp)
      ·rw [if_neg c10] at H
       have c10b0 : decide (x4_2 < (l0_0.length : Int)) = false := decide_eq_false c10
       clear c10
       replace H := Option.bind_eq_some_iff.mp H
       obtain ⟨⟨t158, t159⟩, A170, H⟩ := H
       replace H : (spec_LogicOk.l1 k2 (l0_0.length : Int) t158 0 l0_0 l0_1) = some r := H
       have A17 := Aside0.mk A170
       clear A170
       have H' := Aside0.mk H
       clear H
       have hcz18_0 : wr.cell? ⟨gb154, 0, none⟩ = some (.slice A0_0 l0_0.length c0_0) := (blk_cell BK154.out 0).trans rfl
       have hcz18_1 : wr.cell? ⟨gb154, 1, none⟩ = some (.slice A0_1 l0_1.length c0_1) := (blk_cell BK154.out 1).trans rfl
       have hfz18_0 := blk_frozen BK154.out 0
       have hfz18_1 := blk_frozen BK154.out 1
       go_wp2_with (first | (go_at_call 100; (with_reducible refine (spec_LeastOf.calls k2 _ _ l0_0 t158 t159 _ ?side1 ?side2 A17.out).mono ?_); (case side1 => repeat (first | exact (Kd.C_below HR0_0.out HB.out) | (with_reducible refine Kd.C_alloc ?_ _) | (with_reducible refine Kd.C_drewN ?_ _) | (with_reducible refine Kd.C_drew ?_))); (case side2 => exact HC0_0.out); rintro e w' ⟨rfl, ⟨nd, rfl⟩⟩; (try first | exact ⟨rfl, _, World.drewN_drewN _ _ _⟩ | exact ⟨rfl, _, Eq.trans (World.drewN_drewN _ _ _) (congrArg (World.drewN _) (Nat.add_assoc _ _ _))⟩)))
       repeat (go_quiet (first | (go_at_call 100; (with_reducible refine (spec_LeastOf.calls k2 _ _ l0_0 t158 t159 _ ?side1 ?side2 A17.out).mono ?_); (case side1 => repeat (first | exact (Kd.C_below HR0_0.out HB.out) | (with_reducible refine Kd.C_alloc ?_ _) | (with_reducible refine Kd.C_drewN ?_ _) | (with_reducible refine Kd.C_drew ?_))); (case side2 => exact HC0_0.out); rintro e w' ⟨rfl, ⟨nd, rfl⟩⟩; (try first | exact ⟨rfl, _, World.drewN_drewN _ _ _⟩ | exact ⟨rfl, _, Eq.trans (World.drewN_drewN _ _ _) (congrArg (World.drewN _) (Nat.add_assoc _ _ _))⟩))); try go_wp2_with (first | (go_at_call 100; (with_reducible refine (spec_LeastOf.calls k2 _ _ l0_0 t158 t159 _ ?side1 ?side2 A17.out).mono ?_); (case side1 => repeat (first | exact (Kd.C_below HR0_0.out HB.out) | (with_reducible refine Kd.C_alloc ?_ _) | (with_reducible refine Kd.C_drewN ?_ _) | (with_reducible refine Kd.C_drew ?_))); (case side2 => exact HC0_0.out); rintro e w' ⟨rfl, ⟨nd, rfl⟩⟩; (try first | exact ⟨rfl, _, World.drewN_drewN _ _ _⟩ | exact ⟨rfl, _, Eq.trans (World.drewN_drewN _ _ _) (congrArg (World.drewN _) (Nat.add_assoc _ _ _))⟩))))
       go_loopg [7] k2 (fun kq v7 w' => ∃ (x7_3 : Int), v7 = .int .i64 x7_3 ∧ Aside0 (spec_LogicOk.l1 kq (l0_0.length : Int) t158 x7_3 l0_0 l0_1 = some r) ∧ Aside0 (kq ≤ k2) ∧ Aside0 (w'.heap[gb154]? = some (.cells #[(.slice A0_0 l0_0.length c0_0), (.slice A0_1 l0_1.length c0_1)] 28 (0, 0))) ∧ Aside0 (Below w.heap.size w w'))
       case atStart => exact ⟨(0), (by first | rfl | (simp; done) | (simp [*]; done)), H', ⟨Nat.le_refl _⟩, ⟨by (with_reducible repeat (first | refine blk_drewN ?_ _ | refine blk_drew ?_ | refine blk_alloc ?_ _)); exact BK154.out⟩, ⟨by repeat (first | (with_reducible first | exact HB.out | apply below_alloc | apply pw_below_drewN | apply below_drew1 | refine below_set ?_ GE154.out) | exact HB.out)⟩⟩
       case round =>
        clear H'
        try clear c1
        try clear p1
        try clear q1
        try clear hx1
        try clear p2
        try clear c5
        try clear c6
        try clear p6
        try clear c9
        try clear c10
        try clear c10b0
        try clear c11
        try clear c11b0
        try clear c12
        try clear c12b0
        try clear c14
        try clear p15
        try clear q15
        try clear hx15
        try clear hcz15_0
        try clear hcz15_1
        try clear hcz16_0
        try clear hcz16_1
        try clear hcz18_0
        try clear hcz18_1
        try clear hcz4_0
        try clear hcz4_1
        try clear hcz7_0
        try clear hcz7_1
        try clear hcz8_0
        try clear hcz8_1
        try clear hfz15_0
        try clear hfz15_1
        try clear hfz16_0
        try clear hfz16_1
        try clear hfz18_0
        try clear hfz18_1
        try clear hfz4_0
        try clear hfz4_1
        try clear hfz7_0
        try clear hfz7_1
        try clear hfz8_0
        try clear hfz8_1
        try clear hx156_0
        try clear p156
        try clear p2
        try clear q156
        obtain ⟨x7_3, rfl, HA, HK3, BK154, HB⟩ := hrel
        cases gk with
        | zero => exact absurd HA.out (by simp [spec_LogicOk.l1])
        | succ k3 =>
         have H := HA.out
         clear HA
         simp only [spec_LogicOk.l1] at H
         by_cases c19 : x7_3 < (l0_0.length : Int)
         ·rw [if_pos c19] at H
          have c19b0 : decide (x7_3 < (l0_0.length : Int)) = true := decide_eq_true c19
          clear c19
          have HC20 := Aside0.mk H
          clear H
          go_upto_region 13 with (fail)
          repeat (go_quiet (fail); go_upto_region 13 with (fail))
          go_cut [71] (fun v71 wc => ∃ (kq : Nat) (x71_19 : Bool), v71 = .bool x71_19 ∧ Aside0 (spec_LogicOk.j3 kq (l0_0.length : Int) t158 x7_3 x71_19 l0_0 l0_1 = some r) ∧ Aside0 (kq ≤ k3) ∧ Aside0 (wc.heap[gb154]? = some (.cells #[(.slice A0_0 l0_0.length c0_0), (.slice A0_1 l0_1.length c0_1)] 28 (0, 0))) ∧ Aside0 (Below w.heap.size w wc))
          case first =>
           have H := HC20.out
           clear HC20
           by_cases c21 : 0 ≤ x7_3
           ·rw [if_pos c21] at H
            have c21b0 : decide (0 ≤ x7_3) = true := decide_eq_true c21
            clear c21
            (first | rw [c21b0] | (simp only [i64_w, i32_w]; rw [c21b0]) | skip)
            by_cases c22 : x7_3 < (l0_1.length : Int)
            ·rw [if_pos c22] at H
             have c22b0 : decide (x7_3 < (l0_1.length : Int)) = true := decide_eq_true c22
             clear c22
             by_cases c23 : 0 ≤ (rd l0_1 x7_3)
             ·rw [if_pos c23] at H
              have c23b0 : decide (0 ≤ (rd l0_1 x7_3)) = true := decide_eq_true c23
              clear c23
              by_cases c24 : (rd l0_1 x7_3) < (l0_1.length : Int)
              ·rw [if_pos c24] at H
               have c24b0 : decide ((rd l0_1 x7_3) < (l0_1.length : Int)) = true := decide_eq_true c24
               clear c24
               by_cases c25 : (rd l0_1 (rd l0_1 x7_3)) = x7_3
               ·rw [if_pos c25] at H
                have c25b0 : ((rd l0_1 (rd l0_1 x7_3)) == x7_3) = true := beq_iff_eq.mpr c25
                have c25b1 : ((rd l0_1 (rd l0_1 x7_3)) != x7_3) = false := bne_eq_false_iff_eq.mpr c25
                clear c25
                replace H := Option.bind_eq_some_iff.mp H
                obtain ⟨t163, A260, H⟩ := H
                replace H : (spec_LogicOk.j3 k3 (l0_0.length : Int) t158 x7_3 (t163 != t158) l0_0 l0_1) = some r := H
                have A26 := Aside0.mk A260
                clear A260
                have H' := Aside0.mk H
                clear H
                have hcz27_0 : wr.cell? ⟨gb154, 0, none⟩ = some (.slice A0_0 l0_0.length c0_0) := (blk_cell BK154.out 0).trans rfl
                have hcz27_1 : wr.cell? ⟨gb154, 1, none⟩ = some (.slice A0_1 l0_1.length c0_1) := (blk_cell BK154.out 1).trans rfl
                have hfz27_0 := blk_frozen BK154.out 0
                have hfz27_1 := blk_frozen BK154.out 1
                have p160 : 0 ≤ (x7_3 : Int) := of_decide_eq_true (by first | (with_reducible assumption) | assumption)
                have q160 : x7_3 < (l0_1.length : Int) := of_decide_eq_true (by first | (with_reducible assumption) | assumption)
                obtain ⟨ad160, e160, hx160_0⟩ := Kd.at_int HR0_1.out x7_3 p160 q160
                cases e160
                replace hx160_0 := (HB.out.cell (World.block_lt_of_cell? w _ hx160_0)).trans hx160_0
                replace p160 := eq_true p160
                replace q160 := eq_true q160
                have p161 : 0 ≤ ((rd l0_1 x7_3) : Int) := of_decide_eq_true (by first | (with_reducible assumption) | assumption)
                have q161 : (rd l0_1 x7_3) < (l0_1.length : Int) := of_decide_eq_true (by first | (with_reducible assumption) | assumption)
                obtain ⟨ad161, e161, hx161_0⟩ := Kd.at_int HR0_1.out (rd l0_1 x7_3) p161 q161
                obtain rfl : ad160 = ad161 := (by injection e161)
                replace hx161_0 := (HB.out.cell (World.block_lt_of_cell? w _ hx161_0)).trans hx161_0
                replace p161 := eq_true p161
                replace q161 := eq_true q161
                have p162 : 0 ≤ (x7_3 : Int) := of_decide_eq_true (by first | (with_reducible assumption) | assumption)
                have q162 : x7_3 < (l0_1.length : Int) := of_decide_eq_true (by first | (with_reducible assumption) | assumption)
                obtain ⟨ad162, e162, hx162_0⟩ := Kd.at_int HR0_1.out x7_3 p162 q162
                obtain rfl : ad160 = ad162 := (by injection e162)
                replace hx162_0 := (HB.out.cell (World.block_lt_of_cell? w _ hx162_0)).trans hx162_0
                replace p162 := eq_true p162
                replace q162 := eq_true q162
                go_wp2_with (first | (go_at_call 101; (with_reducible refine (spec_l1Meet.calls k3 _ _ l0_0 x7_3 (rd l0_1 x7_3) t163 _ ?side1 ?side2 A26.out).mono ?_); (case side1 => repeat (first | exact (Kd.C_below HR0_0.out HB.out) | (with_reducible refine Kd.C_alloc ?_ _) | (with_reducible refine Kd.C_drewN ?_ _) | (with_reducible refine Kd.C_drew ?_))); (case side2 => exact HC0_0.out); rintro e w' ⟨rfl, ⟨nd, rfl⟩⟩; (try first | exact ⟨rfl, _, World.drewN_drewN _ _ _⟩ | exact ⟨rfl, _, Eq.trans (World.drewN_drewN _ _ _) (congrArg (World.drewN _) (Nat.add_assoc _ _ _))⟩)))
                repeat (go_quiet (first | (go_at_call 101; (with_reducible refine (spec_l1Meet.calls k3 _ _ l0_0 x7_3 (rd l0_1 x7_3) t163 _ ?side1 ?side2 A26.out).mono ?_); (case side1 => repeat (first | exact (Kd.C_below HR0_0.out HB.out) | (with_reducible refine Kd.C_alloc ?_ _) | (with_reducible refine Kd.C_drewN ?_ _) | (with_reducible refine Kd.C_drew ?_))); (case side2 => exact HC0_0.out); rintro e w' ⟨rfl, ⟨nd, rfl⟩⟩; (try first | exact ⟨rfl, _, World.drewN_drewN _ _ _⟩ | exact ⟨rfl, _, Eq.trans (World.drewN_drewN _ _ _) (congrArg (World.drewN _) (Nat.add_assoc _ _ _))⟩))); try go_wp2_with (first | (go_at_call 101; (with_reducible refine (spec_l1Meet.calls k3 _ _ l0_0 x7_3 (rd l0_1 x7_3) t163 _ ?side1 ?side2 A26.out).mono ?_); (case side1 => repeat (first | exact (Kd.C_below HR0_0.out HB.out) | (with_reducible refine Kd.C_alloc ?_ _) | (with_reducible refine Kd.C_drewN ?_ _) | (with_reducible refine Kd.C_drew ?_))); (case side2 => exact HC0_0.out); rintro e w' ⟨rfl, ⟨nd, rfl⟩⟩; (try first | exact ⟨rfl, _, World.drewN_drewN _ _ _⟩ | exact ⟨rfl, _, Eq.trans (World.drewN_drewN _ _ _) (congrArg (World.drewN _) (Nat.add_assoc _ _ _))⟩))))
                go_meet
                case rel => exact ⟨_, ((t163 != t158)), (by first | rfl | (simp; done) | (simp [*]; done)), H', ⟨by have := HJ1.out; have := HK2.out; have := HK3.out; first | omega | exact Nat.le_refl _⟩, ⟨by (with_reducible repeat (first | refine blk_drewN ?_ _ | refine blk_drew ?_ | refine blk_alloc ?_ _)); exact BK154.out⟩, ⟨by repeat (first | (with_reducible first | exact HB.out | apply below_alloc | apply pw_below_drewN | apply below_drew1 | refine below_set ?_ GE154.out) | exact HB.out)⟩⟩
               ·rw [if_neg c25] at H
                have c25b0 : ((rd l0_1 (rd l0_1 x7_3)) == x7_3) = false := beq_eq_false_iff_ne.mpr c25
                have c25b1 : ((rd l0_1 (rd l0_1 x7_3)) != x7_3) = true := bne_iff_ne.mpr c25
                have H' := Aside0.mk H
                clear H
                have hcz28_0 : wr.cell? ⟨gb154, 0, none⟩ = some (.slice A0_0 l0_0.length c0_0) := (blk_cell BK154.out 0).trans rfl
                have hcz28_1 : wr.cell? ⟨gb154, 1, none⟩ = some (.slice A0_1 l0_1.length c0_1) := (blk_cell BK154.out 1).trans rfl
                have hfz28_0 := blk_frozen BK154.out 0
                have hfz28_1 := blk_frozen BK154.out 1
                have p160 : 0 ≤ (x7_3 : Int) := of_decide_eq_true (by first | (with_reducible assumption) | assumption)
                have q160 : x7_3 < (l0_1.length : Int) := of_decide_eq_true (by first | (with_reducible assumption) | assumption)
                obtain ⟨ad160, e160, hx160_0⟩ := Kd.at_int HR0_1.out x7_3 p160 q160
                cases e160
                replace hx160_0 := (HB.out.cell (World.block_lt_of_cell? w _ hx160_0)).trans hx160_0
                replace p160 := eq_true p160
                replace q160 := eq_true q160
                have p161 : 0 ≤ ((rd l0_1 x7_3) : Int) := of_decide_eq_true (by first | (with_reducible assumption) | assumption)
                have q161 : (rd l0_1 x7_3) < (l0_1.length : Int) := of_decide_eq_true (by first | (with_reducible assumption) | assumption)
                obtain ⟨ad161, e161, hx161_0⟩ := Kd.at_int HR0_1.out (rd l0_1 x7_3) p161 q161
                obtain rfl : ad160 = ad161 := (by injection e161)
                replace hx161_0 := (HB.out.cell (World.block_lt_of_cell? w _ hx161_0)).trans hx161_0
                replace p161 := eq_true p161
                replace q161 := eq_true q161
                go_wp2
                repeat (go_quiet (fail); try go_wp2)
                go_meet
                case rel => exact ⟨_, (true), (by first | rfl | (simp; done) | (simp [*]; done)), H', ⟨by have := HJ1.out; have := HK2.out; have := HK3.out; first | omega | exact Nat.le_refl _⟩, ⟨by (with_reducible repeat (first | refine blk_drewN ?_ _ | refine blk_drew ?_ | refine blk_alloc ?_ _)); exact BK154.out⟩, ⟨by repeat (first | (with_reducible first | exact HB.out | apply below_alloc | apply pw_below_drewN | apply below_drew1 | refine below_set ?_ GE154.out) | exact HB.out)⟩⟩
              ·rw [if_neg c24] at H
               exact absurd H (by simp)
             ·rw [if_neg c23] at H
              exact absurd H (by simp)
            ·rw [if_neg c22] at H
             exact absurd H (by simp)
           ·rw [if_neg c21] at H
            exact absurd H (by simp)
          case rest =>
           clear HC20
           try clear c1
           try clear p1
           try clear q1
           try clear hx1
           try clear c2
           try clear p2
           try clear c5
           try clear c6
           try clear p6
           try clear c9
           try clear c10
           try clear c10b0
           try clear c11
           try clear c11b0
           try clear c12
           try clear c12b0
           try clear c14
           try clear p15
           try clear q15
           try clear hx15
           try clear p16
           try clear q16
           try clear hx16
           try clear c19
           try clear c19b0
           try clear c21
           try clear c21b0
           try clear c22
           try clear c22b0
           try clear c23
           try clear c23b0
           try clear c24
           try clear c24b0
           try clear c25
           try clear c25b0
           try clear c25b1
           try clear hcz15_0
           try clear hcz15_1
           try clear hcz16_0
           try clear hcz16_1
           try clear hcz18_0
           try clear hcz18_1
           try clear hcz27_0
           try clear hcz27_1
           try clear hcz28_0
           try clear hcz28_1
           try clear hcz4_0
           try clear hcz4_1
           try clear hcz7_0
           try clear hcz7_1
           try clear hcz8_0
           try clear hcz8_1
           try clear hfz15_0
           try clear hfz15_1
           try clear hfz16_0
           try clear hfz16_1
           try clear hfz18_0
           try clear hfz18_1
           try clear hfz27_0
           try clear hfz27_1
           try clear hfz28_0
           try clear hfz28_1
           try clear hfz4_0
           try clear hfz4_1
           try clear hfz7_0
           try clear hfz7_1
           try clear hfz8_0
           try clear hfz8_1
           try clear hx156_0
           try clear hx160_0
           try clear hx161_0
           try clear hx162_0
           try clear p1
           try clear p15
           try clear p156
           try clear p160
           try clear p161
           try clear p162
           try clear p2
           try clear p6
           try clear q1
           try clear q15
           try clear q156
           try clear q160
           try clear q161
           try clear q162
           obtain ⟨kq, x71_19, rfl, HA, HJ19, BK154, HB⟩ := hcut
           cases kq with
           | zero => exact absurd HA.out (by simp [spec_LogicOk.j3])
           | succ kj19 =>
            have H := HA.out
            clear HA
            simp only [spec_LogicOk.j3] at H
            by_cases c29 : x71_19 = true
            ·subst c29
             have H1 : (some false) = some r := by rw [if_pos rfl] at H; exact H
             clear H
             have H := H1
             clear H1
             obtain rfl := Option.some.inj H
             go_wp2
             repeat (go_quiet (fail); try go_wp2)
             go_ret
             exact ⟨by first | rfl | (simp [errW_none, errW_some] <;> rfl) | (simp [*, errW_none, errW_some] <;> rfl), by repeat (first | (with_reducible first | exact HB.out | apply below_alloc | apply pw_below_drewN | apply below_drew1 | refine below_set ?_ GE154.out) | exact HB.out)⟩
            ·replace c29 := Bool.eq_false_iff.mpr c29
             subst c29
             have H1 : (spec_LogicOk.l2 kj19 (l0_0.length : Int) t158 x7_3 0 l0_0 l0_1) = some r := by rw [if_neg (show ¬ (false = true) by decide)] at H; exact H
             clear H
             have H := H1
             clear H1
             have H' := Aside0.mk H
             clear H
             go_wp2
             repeat (go_quiet (fail); try go_wp2)
             go_loopg [8] kj19 (fun kq v8 w' => ∃ (x8_5 : Int), v8 = .int .i64 x8_5 ∧ Aside0 (spec_LogicOk.l2 kq (l0_0.length : Int) t158 x7_3 x8_5 l0_0 l0_1 = some r) ∧ Aside0 (kq ≤ kj19) ∧ Aside0 (w'.heap[gb154]? = some (.cells #[(.slice A0_0 l0_0.length c0_0), (.slice A0_1 l0_1.length c0_1)] 28 (0, 0))) ∧ Aside0 (Below w.heap.size w w'))
             case atStart => exact ⟨(0), (by first | rfl | (simp; done) | (simp [*]; done)), H', ⟨Nat.le_refl _⟩, ⟨by (with_reducible repeat (first | refine blk_drewN ?_ _ | refine blk_drew ?_ | refine blk_alloc ?_ _)); exact BK154.out⟩, ⟨by repeat (first | (with_reducible first | exact HB.out | apply below_alloc | apply pw_below_drewN | apply below_drew1 | refine below_set ?_ GE154.out) | exact HB.out)⟩⟩
             case round =>
              clear H'
              try clear c1
              try clear p1
              try clear q1
              try clear hx1
              try clear c2
              try clear p2
              try clear c5
              try clear c6
              try clear p6
              try clear c9
              try clear c10
              try clear c10b0
              try clear c11
              try clear c11b0
              try clear c12
              try clear c12b0
              try clear c14
              try clear p15
              try clear q15
              try clear hx15
              try clear p16
              try clear q16
              try clear hx16
              try clear c19
              try clear c19b0
              try clear c21
              try clear c21b0
              try clear c22
              try clear c22b0
              try clear c23
              try clear c23b0
              try clear c24
              try clear c24b0
              try clear c25
              try clear c25b0
              try clear c25b1
              try clear c29
              try clear hcz15_0
              try clear hcz15_1
              try clear hcz16_0
              try clear hcz16_1
              try clear hcz18_0
              try clear hcz18_1
              try clear hcz27_0
              try clear hcz27_1
              try clear hcz28_0
              try clear hcz28_1
              try clear hcz4_0
              try clear hcz4_1
              try clear hcz7_0
              try clear hcz7_1
              try clear hcz8_0
              try clear hcz8_1
              try clear hfz15_0
              try clear hfz15_1
              try clear hfz16_0
              try clear hfz16_1
              try clear hfz18_0
              try clear hfz18_1
              try clear hfz27_0
              try clear hfz27_1
              try clear hfz28_0
              try clear hfz28_1
              try clear hfz4_0
              try clear hfz4_1
              try clear hfz7_0
              try clear hfz7_1
              try clear hfz8_0
              try clear hfz8_1
              try clear hx156_0
              try clear hx160_0
              try clear hx161_0
              try clear hx162_0
              try clear p1
              try clear p15
              try clear p156
              try clear p16
              try clear p160
              try clear p161
              try clear p162
              try clear p2
              try clear p6
              try clear q1
              try clear q15
              try clear q156
              try clear q16
              try clear q160
              try clear q161
              try clear q162
              obtain ⟨x8_5, rfl, HA, HK5, BK154, HB⟩ := hrel
              cases gk with
              | zero => exact absurd HA.out (by simp [spec_LogicOk.l2])
              | succ k5 =>
               have H := HA.out
               clear HA
               simp only [spec_LogicOk.l2] at H
               by_cases c30 : x8_5 < (l0_0.length : Int)
               ·rw [if_pos c30] at H
                have c30b0 : decide (x8_5 < (l0_0.length : Int)) = true := decide_eq_true c30
                clear c30
                by_cases c31 : 0 ≤ x7_3
                ·rw [if_pos c31] at H
                 have c31b0 : decide (0 ≤ x7_3) = true := decide_eq_true c31
                 clear c31
                 by_cases c32 : x7_3 < (l0_0.length : Int)
                 ·rw [if_pos c32] at H
                  have c32b0 : decide (x7_3 < (l0_0.length : Int)) = true := decide_eq_true c32
                  clear c32
                  by_cases c33 : 0 ≤ x8_5
                  ·rw [if_pos c33] at H
                   have c33b0 : decide (0 ≤ x8_5) = true := decide_eq_true c33
                   clear c33
                   by_cases c34 : x8_5 < ((rd_L1 l0_0 x7_3).length : Int)
                   ·rw [if_pos c34] at H
                    have c34b0 : decide (x8_5 < ((rd_L1 l0_0 x7_3).length : Int)) = true := decide_eq_true c34
                    clear c34
                    by_cases c35 : (rd (rd_L1 l0_0 x7_3) x8_5) = 1
                    ·rw [if_pos c35] at H
                     have c35b0 : ((rd (rd_L1 l0_0 x7_3) x8_5) == 1) = true := beq_iff_eq.mpr c35
                     have c35b1 : ((rd (rd_L1 l0_0 x7_3) x8_5) != 1) = false := bne_eq_false_iff_eq.mpr c35
                     clear c35
                     by_cases c36 : x8_5 < (l0_1.length : Int)
                     ·rw [if_pos c36] at H
                      have c36b0 : decide (x8_5 < (l0_1.length : Int)) = true := decide_eq_true c36
                      clear c36
                      by_cases c37 : 0 ≤ (rd l0_1 x8_5)
                      ·rw [if_pos c37] at H
                       have c37b0 : decide (0 ≤ (rd l0_1 x8_5)) = true := decide_eq_true c37
                       clear c37
                       by_cases c38 : (rd l0_1 x8_5) < (l0_0.length : Int)
                       ·rw [if_pos c38] at H
                        have c38b0 : decide ((rd l0_1 x8_5) < (l0_0.length : Int)) = true := decide_eq_true c38
                        clear c38
                        by_cases c39 : x7_3 < (l0_1.length : Int)
                        ·rw [if_pos c39] at H
                         have c39b0 : decide (x7_3 < (l0_1.length : Int)) = true := decide_eq_true c39
                         clear c39
                         by_cases c40 : 0 ≤ (rd l0_1 x7_3)
                         ·rw [if_pos c40] at H
                          have c40b0 : decide (0 ≤ (rd l0_1 x7_3)) = true := decide_eq_true c40
                          clear c40
                          by_cases c41 : (rd l0_1 x7_3) < ((rd_L1 l0_0 (rd l0_1 x8_5)).length : Int)
                          ·rw [if_pos c41] at H
                           have c41b0 : decide ((rd l0_1 x7_3) < ((rd_L1 l0_0 (rd l0_1 x8_5)).length : Int)) = true := decide_eq_true c41
                           clear c41
                           by_cases c42 : (rd (rd_L1 l0_0 (rd l0_1 x8_5)) (rd l0_1 x7_3)) = 0
                           ·rw [if_pos c42] at H
                            have c42b0 : ((rd (rd_L1 l0_0 (rd l0_1 x8_5)) (rd l0_1 x7_3)) == 0) = true := beq_iff_eq.mpr c42
                            have c42b1 : ((rd (rd_L1 l0_0 (rd l0_1 x8_5)) (rd l0_1 x7_3)) != 0) = false := bne_eq_false_iff_eq.mpr c42
                            clear c42
                            obtain rfl := Option.some.inj H
                            have hcz43_0 : wr.cell? ⟨gb154, 0, none⟩ = some (.slice A0_0 l0_0.length c0_0) := (blk_cell BK154.out 0).trans rfl
                            have hcz43_1 : wr.cell? ⟨gb154, 1, none⟩ = some (.slice A0_1 l0_1.length c0_1) := (blk_cell BK154.out 1).trans rfl
                            have hfz43_0 := blk_frozen BK154.out 0
                            have hfz43_1 := blk_frozen BK154.out 1
                            have p164 : 0 ≤ (x7_3 : Int) := of_decide_eq_true (by first | (with_reducible assumption) | assumption)
                            have q164 : x7_3 < (l0_0.length : Int) := of_decide_eq_true (by first | (with_reducible assumption) | assumption)
                            obtain ⟨ad164, A164_0, c164_0, e164, hx164_0, hl164_0, hi164_0⟩ := at_L1 HR0_0.out x7_3 p164 q164
                            cases e164
                            replace hx164_0 := (HB.out.cell (World.block_lt_of_cell? w _ hx164_0)).trans hx164_0
                            have HR164_0 := Aside0.mk hi164_0
                            have HC164_0 := Aside0.mk hl164_0
                            clear hi164_0 hl164_0
                            replace p164 := eq_true p164
                            replace q164 := eq_true q164
                            have p165 : 0 ≤ (x8_5 : Int) := of_decide_eq_true (by first | (with_reducible assumption) | assumption)
                            have q165 : x8_5 < ((rd_L1 l0_0 x7_3).length : Int) := of_decide_eq_true (by first | (with_reducible assumption) | assumption)
                            obtain ⟨ad165, e165, hx165_0⟩ := Kd.at_int HR164_0.out x8_5 p165 q165
                            cases e165
                            replace hx165_0 := (HB.out.cell (World.block_lt_of_cell? w _ hx165_0)).trans hx165_0
                            replace p165 := eq_true p165
                            replace q165 := eq_true q165
                            have p166 : 0 ≤ (x8_5 : Int) := of_decide_eq_true (by first | (with_reducible assumption) | assumption)
                            have q166 : x8_5 < (l0_1.length : Int) := of_decide_eq_true (by first | (with_reducible assumption) | assumption)
                            obtain ⟨ad166, e166, hx166_0⟩ := Kd.at_int HR0_1.out x8_5 p166 q166
                            cases e166
                            replace hx166_0 := (HB.out.cell (World.block_lt_of_cell? w _ hx166_0)).trans hx166_0
                            replace p166 := eq_true p166
                            replace q166 := eq_true q166
                            have p167 : 0 ≤ ((rd l0_1 x8_5) : Int) := of_decide_eq_true (by first | (with_reducible assumption) | assumption)
                            have q167 : (rd l0_1 x8_5) < (l0_0.length : Int) := of_decide_eq_true (by first | (with_reducible assumption) | assumption)
                            obtain ⟨ad167, A167_0, c167_0, e167, hx167_0, hl167_0, hi167_0⟩ := at_L1 HR0_0.out (rd l0_1 x8_5) p167 q167
                            obtain rfl : ad164 = ad167 := (by injection e167)
                            replace hx167_0 := (HB.out.cell (World.block_lt_of_cell? w _ hx167_0)).trans hx167_0
                            have HR167_0 := Aside0.mk hi167_0
                            have HC167_0 := Aside0.mk hl167_0
                            clear hi167_0 hl167_0
                            replace p167 := eq_true p167
                            replace q167 := eq_true q167
                            have p168 : 0 ≤ (x7_3 : Int) := of_decide_eq_true (by first | (with_reducible assumption) | assumption)
                            have q168 : x7_3 < (l0_1.length : Int) := of_decide_eq_true (by first | (with_reducible assumption) | assumption)
                            obtain ⟨ad168, e168, hx168_0⟩ := Kd.at_int HR0_1.out x7_3 p168 q168
                            obtain rfl : ad166 = ad168 := (by injection e168)
                            replace hx168_0 := (HB.out.cell (World.block_lt_of_cell? w _ hx168_0)).trans hx168_0
                            replace p168 := eq_true p168
                            replace q168 := eq_true q168
                            have p169 : 0 ≤ ((rd l0_1 x7_3) : Int) := of_decide_eq_true (by first | (with_reducible assumption) | assumption)
                            have q169 : (rd l0_1 x7_3) < ((rd_L1 l0_0 (rd l0_1 x8_5)).length : Int) := of_decide_eq_true (by first | (with_reducible assumption) | assumption)
                            obtain ⟨ad169, e169, hx169_0⟩ := Kd.at_int HR167_0.out (rd l0_1 x7_3) p169 q169
                            cases e169
                            replace hx169_0 := (HB.out.cell (World.block_lt_of_cell? w _ hx169_0)).trans hx169_0
                            replace p169 := eq_true p169
                            replace q169 := eq_true q169
                            go_wp2
                            repeat (go_quiet (fail); try go_wp2)
                            go_ret
                            exact ⟨by first | rfl | (simp [errW_none, errW_some] <;> rfl) | (simp [*, errW_none, errW_some] <;> rfl), by repeat (first | (with_reducible first | exact HB.out | apply below_alloc | apply pw_below_drewN | apply below_drew1 | refine below_set ?_ GE154.out) | exact HB.out)⟩
                           ·rw [if_neg c42] at H
                            have c42b0 : ((rd (rd_L1 l0_0 (rd l0_1 x8_5)) (rd l0_1 x7_3)) == 0) = false := beq_eq_false_iff_ne.mpr c42
                            have c42b1 : ((rd (rd_L1 l0_0 (rd l0_1 x8_5)) (rd l0_1 x7_3)) != 0) = true := bne_iff_ne.mpr c42
                            have H' := Aside0.mk H
                            clear H
                            have hcz44_0 : wr.cell? ⟨gb154, 0, none⟩ = some (.slice A0_0 l0_0.length c0_0) := (blk_cell BK154.out 0).trans rfl
                            have hcz44_1 : wr.cell? ⟨gb154, 1, none⟩ = some (.slice A0_1 l0_1.length c0_1) := (blk_cell BK154.out 1).trans rfl
                            have hfz44_0 := blk_frozen BK154.out 0
                            have hfz44_1 := blk_frozen BK154.out 1
                            have p164 : 0 ≤ (x7_3 : Int) := of_decide_eq_true (by first | (with_reducible assumption) | assumption)
                            have q164 : x7_3 < (l0_0.length : Int) := of_decide_eq_true (by first | (with_reducible assumption) | assumption)
                            obtain ⟨ad164, A164_0, c164_0, e164, hx164_0, hl164_0, hi164_0⟩ := at_L1 HR0_0.out x7_3 p164 q164
                            cases e164
                            replace hx164_0 := (HB.out.cell (World.block_lt_of_cell? w _ hx164_0)).trans hx164_0
                            have HR164_0 := Aside0.mk hi164_0
                            have HC164_0 := Aside0.mk hl164_0
                            clear hi164_0 hl164_0
                            replace p164 := eq_true p164
                            replace q164 := eq_true q164
                            have p165 : 0 ≤ (x8_5 : Int) := of_decide_eq_true (by first | (with_reducible assumption) | assumption)
                            have q165 : x8_5 < ((rd_L1 l0_0 x7_3).length : Int) := of_decide_eq_true (by first | (with_reducible assumption) | assumption)
                            obtain ⟨ad165, e165, hx165_0⟩ := Kd.at_int HR164_0.out x8_5 p165 q165
                            cases e165
                            replace hx165_0 := (HB.out.cell (World.block_lt_of_cell? w _ hx165_0)).trans hx165_0
                            replace p165 := eq_true p165
                            replace q165 := eq_true q165
                            have p166 : 0 ≤ (x8_5 : Int) := of_decide_eq_true (by first | (with_reducible assumption) | assumption)
                            have q166 : x8_5 < (l0_1.length : Int) := of_decide_eq_true (by first | (with_reducible assumption) | assumption)
                            obtain ⟨ad166, e166, hx166_0⟩ := Kd.at_int HR0_1.out x8_5 p166 q166
                            cases e166
                            replace hx166_0 := (HB.out.cell (World.block_lt_of_cell? w _ hx166_0)).trans hx166_0
                            replace p166 := eq_true p166
                            replace q166 := eq_true q166
                            have p167 : 0 ≤ ((rd l0_1 x8_5) : Int) := of_decide_eq_true (by first | (with_reducible assumption) | assumption)
                            have q167 : (rd l0_1 x8_5) < (l0_0.length : Int) := of_decide_eq_true (by first | (with_reducible assumption) | assumption)
                            obtain ⟨ad167, A167_0, c167_0, e167, hx167_0, hl167_0, hi167_0⟩ := at_L1 HR0_0.out (rd l0_1 x8_5) p167 q167
                            obtain rfl : ad164 = ad167 := (by injection e167)
                            replace hx167_0 := (HB.out.cell (World.block_lt_of_cell? w _ hx167_0)).trans hx167_0
                            have HR167_0 := Aside0.mk hi167_0
                            have HC167_0 := Aside0.mk hl167_0
                            clear hi167_0 hl167_0
                            replace p167 := eq_true p167
                            replace q167 := eq_true q167
                            have p168 : 0 ≤ (x7_3 : Int) := of_decide_eq_true (by first | (with_reducible assumption) | assumption)
                            have q168 : x7_3 < (l0_1.length : Int) := of_decide_eq_true (by first | (with_reducible assumption) | assumption)
                            obtain ⟨ad168, e168, hx168_0⟩ := Kd.at_int HR0_1.out x7_3 p168 q168
                            obtain rfl : ad166 = ad168 := (by injection e168)
                            replace hx168_0 := (HB.out.cell (World.block_lt_of_cell? w _ hx168_0)).trans hx168_0
                            replace p168 := eq_true p168
                            replace q168 := eq_true q168
                            have p169 : 0 ≤ ((rd l0_1 x7_3) : Int) := of_decide_eq_true (by first | (with_reducible assumption) | assumption)
                            have q169 : (rd l0_1 x7_3) < ((rd_L1 l0_0 (rd l0_1 x8_5)).length : Int) := of_decide_eq_true (by first | (with_reducible assumption) | assumption)
                            obtain ⟨ad169, e169, hx169_0⟩ := Kd.at_int HR167_0.out (rd l0_1 x7_3) p169 q169
                            cases e169
                            replace hx169_0 := (HB.out.cell (World.block_lt_of_cell? w _ hx169_0)).trans hx169_0
                            replace p169 := eq_true p169
                            replace q169 := eq_true q169
                            go_wp2
                            repeat (go_quiet (fail); try go_wp2)
                            go_roundg k5
                            case measure => have := HJ1.out; have := HK2.out; have := HK3.out; have := HJ19.out; have := HK5.out; omega
                            case rel => exact ⟨(wrap64 (x8_5 + 1)), (by first | rfl | (simp; done) | (simp [*]; done)), H', ⟨by have := HJ1.out; have := HK2.out; have := HK3.out; have := HJ19.out; have := HK5.out; omega⟩, ⟨by (with_reducible repeat (first | refine blk_drewN ?_ _ | refine blk_drew ?_ | refine blk_alloc ?_ _)); exact BK154.out⟩, ⟨by repeat (first | (with_reducible first | exact HB.out | apply below_alloc | apply pw_below_drewN | apply below_drew1 | refine below_set ?_ GE154.out) | exact HB.out)⟩⟩
                          ·rw [if_neg c41] at H
                           exact absurd H (by simp)
                         ·rw [if_neg c40] at H
                          exact absurd H (by simp)
                        ·rw [if_neg c39] at H
                         exact absurd H (by simp)
                       ·rw [if_neg c38] at H
                        exact absurd H (by simp)
                      ·rw [if_neg c37] at H
                       exact absurd H (by simp)
                     ·rw [if_neg c36] at H
                      exact absurd H (by simp)
                    ·rw [if_neg c35] at H
                     have c35b0 : ((rd (rd_L1 l0_0 x7_3) x8_5) == 1) = false := beq_eq_false_iff_ne.mpr c35
                     have c35b1 : ((rd (rd_L1 l0_0 x7_3) x8_5) != 1) = true := bne_iff_ne.mpr c35
                     have H' := Aside0.mk H
                     clear H
                     have hcz45_0 : wr.cell? ⟨gb154, 0, none⟩ = some (.slice A0_0 l0_0.length c0_0) := (blk_cell BK154.out 0).trans rfl
                     have hcz45_1 : wr.cell? ⟨gb154, 1, none⟩ = some (.slice A0_1 l0_1.length c0_1) := (blk_cell BK154.out 1).trans rfl
                     have hfz45_0 := blk_frozen BK154.out 0
                     have hfz45_1 := blk_frozen BK154.out 1
                     have p164 : 0 ≤ (x7_3 : Int) := of_decide_eq_true (by first | (with_reducible assumption) | assumption)
                     have q164 : x7_3 < (l0_0.length : Int) := of_decide_eq_true (by first | (with_reducible assumption) | assumption)
                     obtain ⟨ad164, A164_0, c164_0, e164, hx164_0, hl164_0, hi164_0⟩ := at_L1 HR0_0.out x7_3 p164 q164
                     cases e164
                     replace hx164_0 := (HB.out.cell (World.block_lt_of_cell? w _ hx164_0)).trans hx164_0
                     have HR164_0 := Aside0.mk hi164_0
                     have HC164_0 := Aside0.mk hl164_0
                     clear hi164_0 hl164_0
                     replace p164 := eq_true p164
                     replace q164 := eq_true q164
                     have p165 : 0 ≤ (x8_5 : Int) := of_decide_eq_true (by first | (with_reducible assumption) | assumption)
                     have q165 : x8_5 < ((rd_L1 l0_0 x7_3).length : Int) := of_decide_eq_true (by first | (with_reducible assumption) | assumption)
                     obtain ⟨ad165, e165, hx165_0⟩ := Kd.at_int HR164_0.out x8_5 p165 q165
                     cases e165
                     replace hx165_0 := (HB.out.cell (World.block_lt_of_cell? w _ hx165_0)).trans hx165_0
                     replace p165 := eq_true p165
                     replace q165 := eq_true q165
                     go_wp2
                     repeat (go_quiet (fail); try go_wp2)
                     go_roundg k5
                     case measure => have := HJ1.out; have := HK2.out; have := HK3.out; have := HJ19.out; have := HK5.out; omega
                     case rel => exact ⟨(wrap64 (x8_5 + 1)), (by first | rfl | (simp; done) | (simp [*]; done)), H', ⟨by have := HJ1.out; have := HK2.out; have := HK3.out; have := HJ19.out; have := HK5.out; omega⟩, ⟨by (with_reducible repeat (first | refine blk_drewN ?_ _ | refine blk_drew ?_ | refine blk_alloc ?_ _)); exact BK154.out⟩, ⟨by repeat (first | (with_reducible first | exact HB.out | apply below_alloc | apply pw_below_drewN | apply below_drew1 | refine below_set ?_ GE154.out) | exact HB.out)⟩⟩
                   ·rw [if_neg c34] at H
                    exact absurd H (by simp)
                  ·rw [if_neg c33] at H
                   exact absurd H (by simp)
                 ·rw [if_neg c32] at H
                  exact absurd H (by simp)
                ·rw [if_neg c31] at H
                 exact absurd H (by simp)
               ·rw [if_neg c30] at H
                have c30b0 : decide (x8_5 < (l0_0.length : Int)) = false := decide_eq_false c30
                clear c30
                have H' := Aside0.mk H
                clear H
                go_wp2
                repeat (go_quiet (fail); try go_wp2)
                go_roundg k5
                case measure => have := HJ1.out; have := HK2.out; have := HK3.out; have := HJ19.out; have := HK5.out; omega
                case rel => exact ⟨(wrap64 (x7_3 + 1)), (by first | rfl | (simp; done) | (simp [*]; done)), H', ⟨by have := HJ1.out; have := HK2.out; have := HK3.out; have := HJ19.out; have := HK5.out; omega⟩, ⟨by (with_reducible repeat (first | refine blk_drewN ?_ _ | refine blk_drew ?_ | refine blk_alloc ?_ _)); exact BK154.out⟩, ⟨by repeat (first | (with_reducible first | exact HB.out | apply below_alloc | apply pw_below_drewN | apply below_drew1 | refine below_set ?_ GE154.out) | exact HB.out)⟩⟩
         ·rw [if_neg c19] at H
          have c19b0 : decide (x7_3 < (l0_0.length : Int)) = false := decide_eq_false c19
          clear c19
          obtain rfl := Option.some.inj H
          go_wp2
          repeat (go_quiet (fail); try go_wp2)
          go_ret
          exact ⟨by first | rfl | (simp [errW_none, errW_some] <;> rfl) | (simp [*, errW_none, errW_some] <;> rfl), by repeat (first | (with_reducible first | exact HB.out | apply below_alloc | apply pw_below_drewN | apply below_drew1 | refine below_set ?_ GE154.out) | exact HB.out)⟩
end Go.Proofs.Ythideghgdmokkaa.Print
end
section
namespace Go.Proofs.Ythideghgdmokkaa.Print
open Go.RowKit Go.Proofs.YthideghgdmokkaaW.PrintWords Go.Proofs.YthideghgdmokkaaW.PrintLast Go.Proofs.YthideghgdmokkaaW.PrintMore
set_option linter.unusedVariables false
set_option linter.unusedSimpArgs false
open Oml
def Best (n : Nat) (lb : Nat → Bool) (le : Nat → Nat → Bool) (i : Nat) (x : Int) : Prop :=
  (x = -1 ∧ ∀ j, j < i → lb j = false) ∨ ∃ c : Nat, x = c ∧ c < i ∧ lb c = true ∧ ∀ j, j < i → lb j = true → (∀ d, d < n → lb d = true → le d j = true) → j = c
theorem Best.zero {n : Nat} {lb : Nat → Bool} {le : Nat → Nat → Bool} : Best n lb le 0 (-1) := .inl ⟨rfl, fun _ h => absurd h (Nat.not_lt_zero _)⟩
theorem Best.skip {n i : Nat} {lb : Nat → Bool} {le : Nat → Nat → Bool} {x : Int} (h : Best n lb le i x) (hi : lb i = false) : Best n lb le (i + 1) x := by
  rcases h with ⟨h1, h2⟩ | ⟨c, h1, h2, h3, h4⟩
  · refine .inl ⟨h1, fun j hj => ?_⟩
    rcases Nat.lt_or_ge j i with h | h
    · exact h2 j h
    · obtain rfl : j = i := by omega
      exact hi
  · refine .inr ⟨c, h1, by omega, h3, fun j hj k1 k2 => ?_⟩
    rcases Nat.lt_or_ge j i with h | h
    · exact h4 j h k1 k2
    · obtain rfl : j = i := by omega
      rw [hi] at k1; exact absurd k1 (by simp)
theorem Best.first {n i : Nat} {lb : Nat → Bool} {le : Nat → Nat → Bool} (h : Best n lb le i (-1)) (hi : lb i = true) : Best n lb le (i + 1) (i : Int) := by
  rcases h with ⟨h1, h2⟩ | ⟨c, h1, h2, h3, h4⟩
  · refine .inr ⟨i, rfl, by omega, hi, fun j hj k1 _ => ?_⟩
    rcases Nat.lt_or_ge j i with h | h
    · rw [h2 j h] at k1; exact absurd k1 (by simp)
    · omega
  · omega
theorem Best.up {n i c : Nat} {lb : Nat → Bool} {le : Nat → Nat → Bool} (ha : ∀ a b, a < n → b < n → le a b = true → le b a = true → a = b) (hn : i < n) (h : Best n lb le i (c : Int)) (hi : lb i = true) (hc : le c i = true) : Best n lb le (i + 1) (i : Int) := by
  rcases h with ⟨h1, h2⟩ | ⟨c', h1, h2, h3, h4⟩
  · omega
  · obtain rfl : c = c' := by omega
    refine .inr ⟨i, rfl, by omega, hi, fun j hj k1 k2 => ?_⟩
    rcases Nat.lt_or_ge j i with h | h
    · obtain rfl := h4 j h k1 k2
      exact ha j i (by omega) hn hc (k2 i hn hi)
    · omega
theorem Best.stay {n i c : Nat} {lb : Nat → Bool} {le : Nat → Nat → Bool} (hn : i < n) (h : Best n lb le i (c : Int)) (hc : le c i = false) : Best n lb le (i + 1) (c : Int) := by
  rcases h with ⟨h1, h2⟩ | ⟨c', h1, h2, h3, h4⟩
  · omega
  · obtain rfl : c = c' := by omega
    refine .inr ⟨c, rfl, by omega, h3, fun j hj k1 k2 => ?_⟩
    rcases Nat.lt_or_ge j i with h | h
    · exact h4 j h k1 k2
    · obtain rfl : j = i := by omega
      have := k2 c (by omega) h3
      rw [hc] at this; exact absurd this (by simp)
section
variable {U : List (List Int)} (O : Order U)
include O
theorem spec_l1Meet.ev {a b : Nat} (ha : a < U.length) (hb : b < U.length) : Ev (fun k => spec_l1Meet.f k U a b) (mI U a b) := by
  have hs := O.small
  unfold spec_l1Meet.f
  refine Ev.loop (g := fun k s i => spec_l1Meet.l0 k U a b s i) U.length (Best U.length (fun i => leB U i a && leB U i b) (leB U)) (by omega) (fun s h => ?_) (fun i s hi h => ?_) (-1) Best.zero
  · refine Ev.succ ?_
    simp only [spec_l1Meet.l0]
    repeat (first | ((with_reducible refine Ev.ite_pos ?_ ?_); (first | assumption | (focus omega) | (focus (simp; done)))) | ((with_reducible refine Ev.ite_neg ?_ ?_); (first | assumption | (focus omega) | (focus (simp; done)))))
    rcases h with ⟨rfl, h⟩ | ⟨c, rfl, hc, h1, h2⟩
    · have e : meetO U a b = none := findN_none.2 fun i hi => by
        have : (leB U i a && leB U i b) = false := h i hi
        unfold meetP; rw [← Bool.and_assoc, this]; rfl
      unfold mI
      rw [e]
      refine Ev.eq (Ev.all (n := U.length) (g := fun k i => spec_l1Meet.l1 k U a b (-1) i) (fun _ => true) (go := -1) (stop := -1) (by omega) (fun _ => ?_) fun i hi _ R hR => ?_) (by split <;> rfl)
      · refine Ev.succ ?_
        simp only [spec_l1Meet.l1]
        repeat (first | ((with_reducible refine Ev.ite_pos ?_ ?_); (first | assumption | (focus omega) | (focus (simp; done)))) | ((with_reducible refine Ev.ite_neg ?_ ?_); (first | assumption | (focus omega) | (focus (simp; done)))))
        exact Ev.now _
      · refine Ev.succ ?_
        have hrow := O.row i hi
        have va := O.val hi ha
        have vb := O.val hi hb
        have hab : (leB U i a && leB U i b) = false := h i hi
        simp only [spec_l1Meet.l1, rdL_nat, rd_nat, rd_row, hrow, va, vb]
        repeat (first | ((with_reducible refine Ev.ite_pos ?_ ?_); (first | assumption | (focus omega) | (focus (simp; done)))) | ((with_reducible refine Ev.ite_neg ?_ ?_); (first | assumption | (focus omega) | (focus (simp; done)))))
        cases xa : leB U i a with
        | false => repeat (first | ((with_reducible refine Ev.ite_pos ?_ ?_); (first | assumption | (focus omega) | (focus (simp; done)))) | ((with_reducible refine Ev.ite_neg ?_ ?_); (first | assumption | (focus omega) | (focus (simp; done)))))
                   exact hR rfl
        | true =>
          cases xb : leB U i b with
          | false => repeat (first | ((with_reducible refine Ev.ite_pos ?_ ?_); (first | assumption | (focus omega) | (focus (simp; done)))) | ((with_reducible refine Ev.ite_neg ?_ ?_); (first | assumption | (focus omega) | (focus (simp; done)))))
                     exact hR rfl
          | true => rw [xa, xb] at hab; exact absurd hab (by simp)
    · replace h1 : (leB U c a && leB U c b) = true := h1
      refine Ev.eq (Ev.all (n := U.length) (g := fun k i => spec_l1Meet.l1 k U a b c i) (fun d => !(leB U d a && leB U d b) || leB U d c) (go := (c : Int)) (stop := -1) (by omega) (fun _ => ?_) fun i hi _ R hR => ?_) ?_
      · refine Ev.succ ?_
        simp only [spec_l1Meet.l1]
        repeat (first | ((with_reducible refine Ev.ite_pos ?_ ?_); (first | assumption | (focus omega) | (focus (simp; done)))) | ((with_reducible refine Ev.ite_neg ?_ ?_); (first | assumption | (focus omega) | (focus (simp; done)))))
        exact Ev.now _
      · refine Ev.succ ?_
        have hrow := O.row i hi
        have va := O.val hi ha
        have vb := O.val hi hb
        have vc := O.val hi hc
        simp only [spec_l1Meet.l1, rdL_nat, rd_nat, rd_row, hrow, va, vb, vc]
        repeat (first | ((with_reducible refine Ev.ite_pos ?_ ?_); (first | assumption | (focus omega) | (focus (simp; done)))) | ((with_reducible refine Ev.ite_neg ?_ ?_); (first | assumption | (focus omega) | (focus (simp; done)))))
        cases xa : leB U i a with
        | false => repeat (first | ((with_reducible refine Ev.ite_pos ?_ ?_); (first | assumption | (focus omega) | (focus (simp; done)))) | ((with_reducible refine Ev.ite_neg ?_ ?_); (first | assumption | (focus omega) | (focus (simp; done)))))
                   exact hR (by simp [xa])
        | true =>
          repeat (first | ((with_reducible refine Ev.ite_pos ?_ ?_); (first | assumption | (focus omega) | (focus (simp; done)))) | ((with_reducible refine Ev.ite_neg ?_ ?_); (first | assumption | (focus omega) | (focus (simp; done)))))
          cases xb : leB U i b with
          | false => repeat (first | ((with_reducible refine Ev.ite_pos ?_ ?_); (first | assumption | (focus omega) | (focus (simp; done)))) | ((with_reducible refine Ev.ite_neg ?_ ?_); (first | assumption | (focus omega) | (focus (simp; done)))))
                     exact hR (by simp [xa, xb])
          | true =>
            repeat (first | ((with_reducible refine Ev.ite_pos ?_ ?_); (first | assumption | (focus omega) | (focus (simp; done)))) | ((with_reducible refine Ev.ite_neg ?_ ?_); (first | assumption | (focus omega) | (focus (simp; done)))))
            cases xc : leB U i c with
            | false => repeat (first | ((with_reducible refine Ev.ite_pos ?_ ?_); (first | assumption | (focus omega) | (focus (simp; done)))) | ((with_reducible refine Ev.ite_neg ?_ ?_); (first | assumption | (focus omega) | (focus (simp; done)))))
                       exact Ev.now _
            | true => repeat (first | ((with_reducible refine Ev.ite_pos ?_ ?_); (first | assumption | (focus omega) | (focus (simp; done)))) | ((with_reducible refine Ev.ite_neg ?_ ?_); (first | assumption | (focus omega) | (focus (simp; done)))))
                      exact hR (by simp [xc])
      · unfold mI
        have hP : meetP U a b c = allN U.length fun d => !(leB U d a && leB U d b) || leB U d c := by unfold meetP; rw [← Bool.and_assoc, h1]; rfl
        rw [← hP]
        cases hp : meetP U a b c with
        | true => rw [O.meet_eq hc hp]; rfl
        | false =>
          cases e : meetO U a b with
          | none => rfl
          | some m =>
            obtain ⟨k1, k2⟩ := findN_some e
            obtain ⟨q1, q2, q3⟩ := meetP_iff.1 k2
            have := h2 m k1 (by simp [q1, q2]) fun d hd kd => by
              rw [Bool.and_eq_true] at kd
              exact q3 d hd kd.1 kd.2
            rw [← this, k2] at hp
            exact absurd hp (by simp)
  · have hrow := O.row i hi
    have va := O.val hi ha
    have vb := O.val hi hb
    cases xa : leB U i a with
    | false =>
      refine ⟨s, h.skip (by simp [xa]), fun K => Ev.succ ?_⟩
      rw [xa] at va
      simp only [spec_l1Meet.l0, rdL_nat, rd_nat, rd_row, hrow, va, vb]
      repeat (first | ((with_reducible refine Ev.ite_pos ?_ ?_); (first | assumption | (focus omega) | (focus (simp; done)))) | ((with_reducible refine Ev.ite_neg ?_ ?_); (first | assumption | (focus omega) | (focus (simp; done)))))
      exact K
    | true =>
      cases xb : leB U i b with
      | false =>
        refine ⟨s, h.skip (by simp [xb]), fun K => Ev.succ ?_⟩
        rw [xa] at va; rw [xb] at vb
        simp only [spec_l1Meet.l0, rdL_nat, rd_nat, rd_row, hrow, va, vb]
        repeat (first | ((with_reducible refine Ev.ite_pos ?_ ?_); (first | assumption | (focus omega) | (focus (simp; done)))) | ((with_reducible refine Ev.ite_neg ?_ ?_); (first | assumption | (focus omega) | (focus (simp; done)))))
        exact K
      | true =>
        rw [xa] at va; rw [xb] at vb
        by_cases hneg : s = -1
        · subst hneg
          refine ⟨(i : Int), h.first (by simp [xa, xb]), fun K => Ev.succ ?_⟩
          simp only [spec_l1Meet.l0, rdL_nat, rd_nat, rd_row, hrow, va, vb]
          repeat (first | ((with_reducible refine Ev.ite_pos ?_ ?_); (first | assumption | (focus omega) | (focus (simp; done)))) | ((with_reducible refine Ev.ite_neg ?_ ?_); (first | assumption | (focus omega) | (focus (simp; done)))))
          exact K
        · obtain ⟨c, rfl, hc⟩ : ∃ c : Nat, s = c ∧ c < i := by
            rcases h with ⟨h1, _⟩ | ⟨c, h1, h2, _⟩
            · exact absurd h1 hneg
            · exact ⟨c, h1, h2⟩
          have vc := O.val (show c < U.length by omega) hi
          have hrowc := O.row c (by omega)
          cases xc : leB U c i with
          | true =>
            refine ⟨(i : Int), h.up O.anti hi (by simp [xa, xb]) xc, fun K => Ev.succ ?_⟩
            rw [xc] at vc
            simp only [spec_l1Meet.l0, rdL_nat, rd_nat, rd_row, hrow, hrowc, va, vb, vc]
            repeat (first | ((with_reducible refine Ev.ite_pos ?_ ?_); (first | assumption | (focus omega) | (focus (simp; done)))) | ((with_reducible refine Ev.ite_neg ?_ ?_); (first | assumption | (focus omega) | (focus (simp; done)))))
            exact K
          | false =>
            refine ⟨(c : Int), h.stay hi xc, fun K => Ev.succ ?_⟩
            rw [xc] at vc
            simp only [spec_l1Meet.l0, rdL_nat, rd_nat, rd_row, hrow, hrowc, va, vb, vc]
            repeat (first | ((with_reducible refine Ev.ite_pos ?_ ?_); (first | assumption | (focus omega) | (focus (simp; done)))) | ((with_reducible refine Ev.ite_neg ?_ ?_); (first | assumption | (focus omega) | (focus (simp; done)))))
            exact K
theorem spec_l1Join.ev {a b : Nat} (ha : a < U.length) (hb : b < U.length) : Ev (fun k => spec_l1Join.f k U a b) (jI U a b) := by
  have hs := O.small
  have hra := O.row a ha
  have hrb := O.row b hb
  unfold spec_l1Join.f
  refine Ev.loop (g := fun k s i => spec_l1Join.l0 k U a b s i) U.length (Best U.length (fun i => leB U a i && leB U b i) (fun x y => leB U y x)) (by omega) (fun s h => ?_) (fun i s hi h => ?_) (-1) Best.zero
  · refine Ev.succ ?_
    simp only [spec_l1Join.l0]
    repeat (first | ((with_reducible refine Ev.ite_pos ?_ ?_); (first | assumption | (focus omega) | (focus (simp; done)))) | ((with_reducible refine Ev.ite_neg ?_ ?_); (first | assumption | (focus omega) | (focus (simp; done)))))
    rcases h with ⟨rfl, h⟩ | ⟨c, rfl, hc, h1, h2⟩
    · have e : joinO U a b = none := findN_none.2 fun i hi => by
        have : (leB U a i && leB U b i) = false := h i hi
        unfold joinP; rw [← Bool.and_assoc, this]; rfl
      unfold jI
      rw [e]
      refine Ev.eq (Ev.all (n := U.length) (g := fun k i => spec_l1Join.l1 k U a b (-1) i) (fun _ => true) (go := -1) (stop := -1) (by omega) (fun _ => ?_) fun i hi _ R hR => ?_) (by split <;> rfl)
      · refine Ev.succ ?_
        simp only [spec_l1Join.l1]
        repeat (first | ((with_reducible refine Ev.ite_pos ?_ ?_); (first | assumption | (focus omega) | (focus (simp; done)))) | ((with_reducible refine Ev.ite_neg ?_ ?_); (first | assumption | (focus omega) | (focus (simp; done)))))
        exact Ev.now _
      · refine Ev.succ ?_
        have va := O.val ha hi
        have vb := O.val hb hi
        have hab : (leB U a i && leB U b i) = false := h i hi
        simp only [spec_l1Join.l1, rdL_nat, rd_nat, rd_row, hra, hrb, va, vb]
        repeat (first | ((with_reducible refine Ev.ite_pos ?_ ?_); (first | assumption | (focus omega) | (focus (simp; done)))) | ((with_reducible refine Ev.ite_neg ?_ ?_); (first | assumption | (focus omega) | (focus (simp; done)))))
        cases xa : leB U a i with
        | false => repeat (first | ((with_reducible refine Ev.ite_pos ?_ ?_); (first | assumption | (focus omega) | (focus (simp; done)))) | ((with_reducible refine Ev.ite_neg ?_ ?_); (first | assumption | (focus omega) | (focus (simp; done)))))
                   exact hR rfl
        | true =>
          cases xb : leB U b i with
          | false => repeat (first | ((with_reducible refine Ev.ite_pos ?_ ?_); (first | assumption | (focus omega) | (focus (simp; done)))) | ((with_reducible refine Ev.ite_neg ?_ ?_); (first | assumption | (focus omega) | (focus (simp; done)))))
                     exact hR rfl
          | true => rw [xa, xb] at hab; exact absurd hab (by simp)
    · have hrc := O.row c hc
      replace h1 : (leB U a c && leB U b c) = true := h1
      refine Ev.eq (Ev.all (n := U.length) (g := fun k i => spec_l1Join.l1 k U a b c i) (fun d => !(leB U a d && leB U b d) || leB U c d) (go := (c : Int)) (stop := -1) (by omega) (fun _ => ?_) fun i hi _ R hR => ?_) ?_
      · refine Ev.succ ?_
        simp only [spec_l1Join.l1]
        repeat (first | ((with_reducible refine Ev.ite_pos ?_ ?_); (first | assumption | (focus omega) | (focus (simp; done)))) | ((with_reducible refine Ev.ite_neg ?_ ?_); (first | assumption | (focus omega) | (focus (simp; done)))))
        exact Ev.now _
      · refine Ev.succ ?_
        have va := O.val ha hi
        have vb := O.val hb hi
        have vc := O.val hc hi
        simp only [spec_l1Join.l1, rdL_nat, rd_nat, rd_row, hra, hrb, hrc, va, vb, vc]
        repeat (first | ((with_reducible refine Ev.ite_pos ?_ ?_); (first | assumption | (focus omega) | (focus (simp; done)))) | ((with_reducible refine Ev.ite_neg ?_ ?_); (first | assumption | (focus omega) | (focus (simp; done)))))
        cases xa : leB U a i with
        | false => repeat (first | ((with_reducible refine Ev.ite_pos ?_ ?_); (first | assumption | (focus omega) | (focus (simp; done)))) | ((with_reducible refine Ev.ite_neg ?_ ?_); (first | assumption | (focus omega) | (focus (simp; done)))))
                   exact hR (by simp [xa])
        | true =>
          repeat (first | ((with_reducible refine Ev.ite_pos ?_ ?_); (first | assumption | (focus omega) | (focus (simp; done)))) | ((with_reducible refine Ev.ite_neg ?_ ?_); (first | assumption | (focus omega) | (focus (simp; done)))))
          cases xb : leB U b i with
          | false => repeat (first | ((with_reducible refine Ev.ite_pos ?_ ?_); (first | assumption | (focus omega) | (focus (simp; done)))) | ((with_reducible refine Ev.ite_neg ?_ ?_); (first | assumption | (focus omega) | (focus (simp; done)))))
                     exact hR (by simp [xa, xb])
          | true =>
            repeat (first | ((with_reducible refine Ev.ite_pos ?_ ?_); (first | assumption | (focus omega) | (focus (simp; done)))) | ((with_reducible refine Ev.ite_neg ?_ ?_); (first | assumption | (focus omega) | (focus (simp; done)))))
            cases xc : leB U c i with
            | false => repeat (first | ((with_reducible refine Ev.ite_pos ?_ ?_); (first | assumption | (focus omega) | (focus (simp; done)))) | ((with_reducible refine Ev.ite_neg ?_ ?_); (first | assumption | (focus omega) | (focus (simp; done)))))
                       exact Ev.now _
            | true => repeat (first | ((with_reducible refine Ev.ite_pos ?_ ?_); (first | assumption | (focus omega) | (focus (simp; done)))) | ((with_reducible refine Ev.ite_neg ?_ ?_); (first | assumption | (focus omega) | (focus (simp; done)))))
                      exact hR (by simp [xc])
      · unfold jI
        have hP : joinP U a b c = allN U.length fun d => !(leB U a d && leB U b d) || leB U c d := by unfold joinP; rw [← Bool.and_assoc, h1]; rfl
        rw [← hP]
        cases hp : joinP U a b c with
        | true => rw [O.join_eq hc hp]; rfl
        | false =>
          cases e : joinO U a b with
          | none => rfl
          | some m =>
            obtain ⟨k1, k2⟩ := findN_some e
            obtain ⟨q1, q2, q3⟩ := joinP_iff.1 k2
            have := h2 m k1 (by simp [q1, q2]) fun d hd kd => by
              rw [Bool.and_eq_true] at kd
              exact q3 d hd kd.1 kd.2
            rw [← this, k2] at hp
            exact absurd hp (by simp)
  · have hrow := O.row i hi
    have va := O.val ha hi
    have vb := O.val hb hi
    cases xa : leB U a i with
    | false =>
      refine ⟨s, h.skip (by simp [xa]), fun K => Ev.succ ?_⟩
      rw [xa] at va
      simp only [spec_l1Join.l0, rdL_nat, rd_nat, rd_row, hra, hrb, va, vb]
      repeat (first | ((with_reducible refine Ev.ite_pos ?_ ?_); (first | assumption | (focus omega) | (focus (simp; done)))) | ((with_reducible refine Ev.ite_neg ?_ ?_); (first | assumption | (focus omega) | (focus (simp; done)))))
      exact K
    | true =>
      cases xb : leB U b i with
      | false =>
        refine ⟨s, h.skip (by simp [xb]), fun K => Ev.succ ?_⟩
        rw [xa] at va; rw [xb] at vb
        simp only [spec_l1Join.l0, rdL_nat, rd_nat, rd_row, hra, hrb, va, vb]
        repeat (first | ((with_reducible refine Ev.ite_pos ?_ ?_); (first | assumption | (focus omega) | (focus (simp; done)))) | ((with_reducible refine Ev.ite_neg ?_ ?_); (first | assumption | (focus omega) | (focus (simp; done)))))
        exact K
      | true =>
        rw [xa] at va; rw [xb] at vb
        by_cases hneg : s = -1
        · subst hneg
          refine ⟨(i : Int), h.first (by simp [xa, xb]), fun K => Ev.succ ?_⟩
          simp only [spec_l1Join.l0, rdL_nat, rd_nat, rd_row, hra, hrb, va, vb]
          repeat (first | ((with_reducible refine Ev.ite_pos ?_ ?_); (first | assumption | (focus omega) | (focus (simp; done)))) | ((with_reducible refine Ev.ite_neg ?_ ?_); (first | assumption | (focus omega) | (focus (simp; done)))))
          exact K
        · obtain ⟨c, rfl, hc⟩ : ∃ c : Nat, s = c ∧ c < i := by
            rcases h with ⟨h1, _⟩ | ⟨c, h1, h2, _⟩
            · exact absurd h1 hneg
            · exact ⟨c, h1, h2⟩
          have vc := O.val hi (show c < U.length by omega)
          cases xc : leB U i c with
          | true =>
            refine ⟨(i : Int), h.up (fun x y hx hy e1 e2 => O.anti x y hx hy e2 e1) hi (by simp [xa, xb]) xc, fun K => Ev.succ ?_⟩
            rw [xc] at vc
            simp only [spec_l1Join.l0, rdL_nat, rd_nat, rd_row, hrow, hra, hrb, va, vb, vc]
            repeat (first | ((with_reducible refine Ev.ite_pos ?_ ?_); (first | assumption | (focus omega) | (focus (simp; done)))) | ((with_reducible refine Ev.ite_neg ?_ ?_); (first | assumption | (focus omega) | (focus (simp; done)))))
            exact K
          | false =>
            refine ⟨(c : Int), h.stay hi xc, fun K => Ev.succ ?_⟩
            rw [xc] at vc
            simp only [spec_l1Join.l0, rdL_nat, rd_nat, rd_row, hrow, hra, hrb, va, vb, vc]
            repeat (first | ((with_reducible refine Ev.ite_pos ?_ ?_); (first | assumption | (focus omega) | (focus (simp; done)))) | ((with_reducible refine Ev.ite_neg ?_ ?_); (first | assumption | (focus omega) | (focus (simp; done)))))
            exact K
end
end Go.Proofs.Ythideghgdmokkaa.Print
end
section
namespace Go.Proofs.Ythideghgdmokkaa.Print
open Go.RowKit Go.Proofs.YthideghgdmokkaaW.PrintWords Go.Proofs.YthideghgdmokkaaW.PrintLast Go.Proofs.YthideghgdmokkaaW.PrintMore
set_option linter.unusedVariables false
set_option linter.unusedSimpArgs false
open Oml
def In (U : List (List Int)) (a : Int) : Prop := 0 ≤ a ∧ a < (U.length : Int)
def andI (U : List (List Int)) (a b : Int) : Int := mI U a.toNat b.toNat
def orI (U : List (List Int)) (a b : Int) : Int := jI U a.toNat b.toNat
def notI (N : List Int) (a : Int) : Int := at1 N a.toNat
def noI (U : List (List Int)) : Int := optI (leastO U)
def yesI (U : List (List Int)) (N : List Int) : Int := notI N (noI U)
section
variable {U : List (List Int)} {N : List Int} (L : Logic U N)
include L
theorem _root_.Oml.Logic.in_and {a b : Int} (ha : In U a) (hb : In U b) : In U (andI U a b) := by
  obtain ⟨m, hm⟩ := Option.isSome_iff_exists.1 (L.meets a.toNat b.toNat (by have := ha.1; have := ha.2; omega) (by have := hb.1; have := hb.2; omega))
  have := (findN_some hm).1
  unfold In andI mI; rw [hm]; simp only [optI]; omega
theorem _root_.Oml.Logic.in_or {a b : Int} (ha : In U a) (hb : In U b) : In U (orI U a b) := by
  obtain ⟨m, hm⟩ := Option.isSome_iff_exists.1 (L.joins a.toNat b.toNat (by have := ha.1; have := ha.2; omega) (by have := hb.1; have := hb.2; omega))
  have := (findN_some hm).1
  unfold In orI jI; rw [hm]; simp only [optI]; omega
theorem _root_.Oml.Logic.in_not {a : Int} (ha : In U a) : In U (notI N a) := L.ran a.toNat (by have := ha.1; have := ha.2; omega)
theorem _root_.Oml.Logic.in_no : In U (noI U) := by
  obtain ⟨m, hm⟩ := L.least_some
  have := (findN_some hm).1
  unfold In noI; rw [hm]; simp only [optI]; omega
theorem _root_.Oml.Logic.in_yes : In U (yesI U N) := L.in_not L.in_no
end
structure Adr where
  aU : Addr
  aA : Addr
  aO : Addr
  aN : Addr
  cU : Nat
  cA : Nat
  cO : Nat
  cN : Nat
  rU : Nat → Addr
  rA : Nat → Addr
  rO : Nat → Addr
  qU : Nat → Nat
  qA : Nat → Nat
  qO : Nat → Nat
structure View (W : World) (g : Nat) (U : List (List Int)) (N : List Int) (v : Adr) : Prop where
  blk : W.heap[g]? = some (.cells #[.slice (some v.aU) U.length v.cU, .slice (some v.aA) U.length v.cA, .slice (some v.aO) U.length v.cO, .slice (some v.aN) U.length v.cN, .int .i64 (noI U), .int .i64 (yesI U N)] 81 (0, 0))
  len : N.length = U.length
  u : ∀ a, In U a → W.cell? (v.aU.add a.toNat) = some (.slice (some (v.rU a.toNat)) U.length (v.qU a.toNat))
  u2 : ∀ a b, In U a → In U b → W.cell? ((v.rU a.toNat).add b.toNat) = some (.int .i64 (at2 U a.toNat b.toNat))
  m : ∀ a, In U a → W.cell? (v.aA.add a.toNat) = some (.slice (some (v.rA a.toNat)) U.length (v.qA a.toNat))
  m2 : ∀ a b, In U a → In U b → W.cell? ((v.rA a.toNat).add b.toNat) = some (.int .i64 (andI U a b))
  j : ∀ a, In U a → W.cell? (v.aO.add a.toNat) = some (.slice (some (v.rO a.toNat)) U.length (v.qO a.toNat))
  j2 : ∀ a b, In U a → In U b → W.cell? ((v.rO a.toNat).add b.toNat) = some (.int .i64 (orI U a b))
  n : ∀ a, In U a → W.cell? (v.aN.add a.toNat) = some (.int .i64 (notI N a))
  capU : U.length ≤ v.cU
  capR : ∀ a, In U a → U.length ≤ v.qU a.toNat
namespace View
section
variable {W W1 : World} {g : Nat} {U : List (List Int)} {N : List Int} {v : Adr} (h : View W g U N v)
include h
theorem below (hb : Below W.heap.size W W1) : View W1 g U N v where
  blk := blk_below h.blk hb
  len := h.len
  u := fun a ha => cell_up (h.u a ha) hb rfl
  u2 := fun a b ha hb' => cell_up (h.u2 a b ha hb') hb rfl
  m := fun a ha => cell_up (h.m a ha) hb rfl
  m2 := fun a b ha hb' => cell_up (h.m2 a b ha hb') hb rfl
  j := fun a ha => cell_up (h.j a ha) hb rfl
  j2 := fun a b ha hb' => cell_up (h.j2 a b ha hb') hb rfl
  n := fun a ha => cell_up (h.n a ha) hb rfl
  capU := h.capU
  capR := h.capR
theorem f0 : W.cell? ⟨g, 0, none⟩ = some (.slice (some v.aU) U.length v.cU) := (blk_cell h.blk 0).trans rfl
theorem f1 : W.cell? ⟨g, 1, none⟩ = some (.slice (some v.aA) U.length v.cA) := (blk_cell h.blk 1).trans rfl
theorem f2 : W.cell? ⟨g, 2, none⟩ = some (.slice (some v.aO) U.length v.cO) := (blk_cell h.blk 2).trans rfl
theorem f3 : W.cell? ⟨g, 3, none⟩ = some (.slice (some v.aN) U.length v.cN) := (blk_cell h.blk 3).trans rfl
theorem f4 : W.cell? ⟨g, 4, none⟩ = some (.int .i64 (noI U)) := (blk_cell h.blk 4).trans rfl
theorem f5 : W.cell? ⟨g, 5, none⟩ = some (.int .i64 (yesI U N)) := (blk_cell h.blk 5).trans rfl
theorem drewN (n : Nat) : View (W.drewN n) g U N v := h.below (pw_below_drewN (Below.refl _ _) n)
theorem alloc (o : Obj) : View (W.alloc o) g U N v := h.below (below_alloc (Below.refl _ _) o)
end
end View
theorem rows_adr {W : World} {A : Option Addr} {n m : Nat} {xs : List (List Int)} (h : Kd.C (Kd.slice 3 (Kd.int .i64)) W A m xs) (hm : m = n) (hn : 0 < n) (hr : ∀ a, a < n → (xs.getD a []).length = n) :
    ∃ (ad : Addr) (r : Nat → Addr) (q : Nat → Nat), A = some ad ∧ (∀ a, a < n → W.cell? (ad.add a) = some (.slice (some (r a)) n (q a))) ∧ (∀ a b, a < n → b < n → W.cell? ((r a).add b) = some (.int .i64 (at2 xs a b))) ∧ ∀ a, a < n → n ≤ q a := by
  subst hm
  obtain ⟨ad, _, _, e, _⟩ := mat_cell h hr 0 0 (by omega) (by omega) (by omega) (by omega)
  have key : ∀ a : Nat, ∃ (r : Addr) (q : Nat), a < m → W.cell? (ad.add a) = some (.slice (some r) m q) ∧ (∀ b, b < m → W.cell? (r.add b) = some (.int .i64 (at2 xs a b))) ∧ m ≤ q := by
    intro a
    by_cases ha : a < m
    · obtain ⟨ad1, Ar, cr, e1, hc, hl, hk⟩ := rows_cell h a (by omega) (by omega)
      rw [e] at e1
      injection e1 with e1
      subst e1
      simp only [Int.toNat_natCast] at hc hl hk
      rw [hr a ha] at hc hl hk
      obtain ⟨r, e2, _⟩ := ints_cell hk 0 (by omega) (by omega)
      subst e2
      refine ⟨r, cr, fun _ => ⟨hc, fun b hb => ?_, hl⟩⟩
      obtain ⟨r', e3, hc3⟩ := ints_cell hk b (by omega) (by omega)
      cases e3
      simpa [at2, at1] using hc3
    · exact ⟨ad, 0, fun h => absurd h ha⟩
  refine ⟨ad, fun a => Classical.choose (key a), fun a => Classical.choose (Classical.choose_spec (key a)), e, fun a ha => ?_, fun a b ha hb => ?_, fun a ha => ?_⟩
  · exact (Classical.choose_spec (Classical.choose_spec (key a)) ha).1
  · exact (Classical.choose_spec (Classical.choose_spec (key a)) ha).2.1 b hb
  · exact (Classical.choose_spec (Classical.choose_spec (key a)) ha).2.2
theorem view_of {W : World} {g : Nat} {U : List (List Int)} {N : List Int} (L : Logic U N) (h : AlgOf W g U N) : ∃ v, View W g U N v := by
  obtain ⟨A0, c0, A1, c1, A2, c2, A3, c3, h1, hc, k0, k1, k2, k3⟩ := h
  have hn : 0 < U.length := L.pos
  rw [tabI_length] at h1 hc k1 k2
  rw [tabI_length, L.len] at h1
  rw [tabI_length, L.len] at hc
  rw [L.len] at k3
  obtain ⟨aU, rU, qU, eU, u1, u2, u3⟩ := rows_adr k0 rfl hn L.row
  obtain ⟨aA, rA, qA, eA, m1, m2, m3⟩ := rows_adr k1 rfl hn (tabI_row _ _)
  obtain ⟨aO, rO, qO, eO, j1, j2, j3⟩ := rows_adr k2 rfl hn (tabI_row _ _)
  obtain ⟨aN, eN, _⟩ := ints_cell k3 0 (by omega) (by omega)
  subst eU eA eO eN
  have nat : ∀ a, In U a → a.toNat < U.length := fun a ha => by have := ha.1; have := ha.2; omega
  refine ⟨⟨aU, aA, aO, aN, c0, c1, c2, c3, rU, rA, rO, qU, qA, qO⟩, { blk := h1, len := L.len, u := fun a ha => u1 _ (nat a ha), u2 := fun a b ha hb => u2 _ _ (nat a ha) (nat b hb), m := fun a ha => m1 _ (nat a ha), m2 := fun a b ha hb => ?_, j := fun a ha => j1 _ (nat a ha), j2 := fun a b ha hb => ?_, n := fun a ha => ?_, capU := hc.1, capR := fun a ha => u3 _ (nat a ha) }⟩
  · rw [m2 _ _ (nat a ha) (nat b hb), tabI_at _ _ _ _ (nat a ha) (nat b hb)]; rfl
  · rw [j2 _ _ (nat a ha) (nat b hb), tabI_at _ _ _ _ (nat a ha) (nat b hb)]; rfl
  · obtain ⟨ad, e, hcell⟩ := ints_cell k3 a ha.1 ha.2
    cases e
    exact hcell
theorem told_y (k : Nat) (A0 : Option Addr) (c0 : Nat) (U : List (List Int)) (A1 : Option Addr) (c1 : Nat) (N : List Int) (w : World)
    (hr0 : Kd.C (Kd.slice 3 (Kd.int .i64)) w A0 U.length U) (hc0 : U.length ≤ c0) (hr1 : Kd.C (Kd.int .i64) w A1 N.length N) (hc1 : N.length ≤ c1) (hF : ToldFacts k U) (hL : logicB U N = true) :
    Calls Try.prog 57 #[.agg #[.slice A0 U.length c0, .slice A1 N.length c1]] w fun e w' => ∃ g v, e = .returned (.pointer (some ⟨g, 0, none⟩)) ∧ View w' g U N v ∧ w.heap.size ≤ g ∧ Below w.heap.size w w' := by
  refine (told_calls k A0 c0 U A1 c1 N w hr0 hc0 hr1 hc1 hF).mono fun e w' h => ?_
  obtain ⟨hb, h | h⟩ := h
  · obtain ⟨_, g, he, hg, ha⟩ := h
    obtain ⟨v, hv⟩ := view_of (logicB_iff.1 hL) ha
    exact ⟨g, v, he, hv, hg, hb⟩
  · rw [hL] at h; exact absurd h.1 (by simp)
theorem told_n (k : Nat) (A0 : Option Addr) (c0 : Nat) (U : List (List Int)) (A1 : Option Addr) (c1 : Nat) (N : List Int) (w : World)
    (hr0 : Kd.C (Kd.slice 3 (Kd.int .i64)) w A0 U.length U) (hc0 : U.length ≤ c0) (hr1 : Kd.C (Kd.int .i64) w A1 N.length N) (hc1 : N.length ≤ c1) (hF : ToldFacts k U) (hL : logicB U N = false) :
    Calls Try.prog 57 #[.agg #[.slice A0 U.length c0, .slice A1 N.length c1]] w fun e w' => e = .returned (.pointer none) ∧ Below w.heap.size w w' := by
  refine (told_calls k A0 c0 U A1 c1 N w hr0 hc0 hr1 hc1 hF).mono fun e w' h => ?_
  obtain ⟨hb, h | h⟩ := h
  · rw [hL] at h; exact absurd h.1 (by simp)
  · exact ⟨h.2, hb⟩
end Go.Proofs.Ythideghgdmokkaa.Print
end
section
namespace Go.Proofs.Ythideghgdmokkaa.Print
open Go.RowKit Go.Proofs.YthideghgdmokkaaW.PrintWords Go.Proofs.YthideghgdmokkaaW.PrintLast Go.Proofs.YthideghgdmokkaaW.PrintMore
set_option linter.unusedVariables false
set_option linter.unusedSimpArgs false
open Oml
theorem l1In_eq (a b c : Int) : spec_l1In.f a b c = some (decide (b ≤ a) && decide (a ≤ c)) := by
  unfold spec_l1In.f
  by_cases h : a ≥ b
  · rw [if_pos h]; simp [h]
  · rw [if_neg h]; simp [h]
def rowS (U : List (List Int)) (i : Nat) : Bool := (U.getD i []).length == U.length && allN U.length fun j => at2 U i j == 0 || at2 U i j == 1
def relS (U : List (List Int)) (i : Nat) : Bool := allN U.length fun j => !(if i = j then !leB U i j else leB U i j && leB U j i) && allN U.length fun c => !(leB U i j && leB U j c) || leB U i c
theorem orderB_spec (U : List (List Int)) : orderB U = (decide (1 ≤ U.length) && (decide (U.length ≤ 12) && (allN U.length (rowS U) && allN U.length (relS U)))) := by
  rw [Bool.eq_iff_iff, orderB_iff]
  unfold rowS relS
  simp only [Bool.and_eq_true, decide_eq_true_eq, allN_iff, Bool.or_eq_true, beq_iff_eq, Bool.not_eq_true']
  constructor
  · intro O
    refine ⟨O.pos, O.small, fun i hi => ⟨O.row i hi, fun j hj => O.bit i j hi hj⟩, fun i hi j hj => ⟨?_, fun c hc => ?_⟩⟩
    · by_cases e : i = j
      · rw [if_pos e, ← e, O.refl i hi]; rfl
      · rw [if_neg e]
        cases k1 : leB U i j
        · rfl
        · cases k2 : leB U j i
          · rfl
          · exact absurd (O.anti i j hi hj k1 k2) e
    · cases k1 : leB U i j
      · simp
      · cases k2 : leB U j c
        · simp
        · exact .inr (O.trans i j c hi hj hc k1 k2)
  · rintro ⟨h1, h2, h3, h4⟩
    refine ⟨h1, h2, fun a ha => (h3 a ha).1, fun a b ha hb => (h3 a ha).2 b hb, fun a ha => ?_, fun a b ha hb k1 k2 => ?_, fun a b c ha hb hc k1 k2 => ?_⟩
    · have := (h4 a ha a ha).1
      rw [if_pos rfl] at this
      simpa using this
    · by_cases e : a = b
      · exact e
      · have := (h4 a ha b hb).1
        rw [if_neg e, k1, k2] at this
        exact absurd this (by simp)
    · rcases (h4 a ha b hb).2 c hc with e | e
      · rw [k1, k2] at e; exact absurd e (by simp)
      · exact e
theorem spec_OrderOk.ev (U : List (List Int)) : Ev (fun k => spec_OrderOk.f k U) (orderB U) := by
  rw [orderB_spec]
  unfold spec_OrderOk.f
  refine Ev.pbind (l1In_eq _ _ _) ?_
  by_cases h1 : 1 ≤ U.length
  · by_cases h2 : U.length ≤ 12
    · rw [show (decide ((1 : Int) ≤ U.length) && decide ((U.length : Int) ≤ 12)) = true by simp; omega]
      simp only [h1, h2, decide_true, Bool.true_and]
      repeat (first | ((with_reducible refine Ev.ite_pos ?_ ?_); (first | assumption | (focus omega) | (focus (simp; done)))) | ((with_reducible refine Ev.ite_neg ?_ ?_); (first | assumption | (focus omega) | (focus (simp; done)))))
      refine Ev.eq (Ev.all (n := U.length) (g := fun k i => spec_OrderOk.l0 k U U.length i) (rowS U) (go := allN U.length (relS U)) (stop := false) (by omega) (fun hr => ?_) fun i hi _ R hR => ?_) (by cases allN U.length (rowS U) <;> rfl)
      · have row : ∀ i, i < U.length → (U.getD i []).length = U.length := fun i hi => by
          have := hr i hi
          unfold rowS at this
          simp only [Bool.and_eq_true, beq_iff_eq] at this
          exact this.1
        have bit : ∀ i j, i < U.length → j < U.length → at2 U i j = if leB U i j = true then 1 else 0 := fun i j hi hj => by
          have := hr i hi
          unfold rowS at this
          simp only [Bool.and_eq_true, beq_iff_eq, allN_iff, Bool.or_eq_true] at this
          unfold leB
          rcases this.2 j hj with e | e <;> simp [e]
        refine Ev.succ ?_
        simp only [spec_OrderOk.l0]
        repeat (first | ((with_reducible refine Ev.ite_pos ?_ ?_); (first | assumption | (focus omega) | (focus (simp; done)))) | ((with_reducible refine Ev.ite_neg ?_ ?_); (first | assumption | (focus omega) | (focus (simp; done)))))
        refine Ev.eq (Ev.all (n := U.length) (g := fun k i => spec_OrderOk.l2 k U U.length i) (relS U) (go := true) (stop := false) (by omega) (fun _ => ?_) fun a ha _ R hR => ?_) (by cases allN U.length _ <;> rfl)
        · refine Ev.succ ?_
          simp only [spec_OrderOk.l2]
          repeat (first | ((with_reducible refine Ev.ite_pos ?_ ?_); (first | assumption | (focus omega) | (focus (simp; done)))) | ((with_reducible refine Ev.ite_neg ?_ ?_); (first | assumption | (focus omega) | (focus (simp; done)))))
          exact Ev.now _
        · refine Ev.succ ?_
          simp only [spec_OrderOk.l2]
          repeat (first | ((with_reducible refine Ev.ite_pos ?_ ?_); (first | assumption | (focus omega) | (focus (simp; done)))) | ((with_reducible refine Ev.ite_neg ?_ ?_); (first | assumption | (focus omega) | (focus (simp; done)))))
          refine Ev.all (n := U.length) (g := fun k i => spec_OrderOk.l3 k U U.length a i) _ (by omega) (fun h => ?_) fun b hb _ R2 hR2 => ?_
          · refine Ev.succ ?_
            simp only [spec_OrderOk.l3]
            repeat (first | ((with_reducible refine Ev.ite_pos ?_ ?_); (first | assumption | (focus omega) | (focus (simp; done)))) | ((with_reducible refine Ev.ite_neg ?_ ?_); (first | assumption | (focus omega) | (focus (simp; done)))))
            exact hR (allN_iff.2 h)
          · have vab := bit a b ha hb
            have vba := bit b a hb ha
            have j4 : Ev (fun k => spec_OrderOk.j4 k U U.length a b (if a = b then !leB U a b else leB U a b && leB U b a)) (if (!(if a = b then !leB U a b else leB U a b && leB U b a) && allN U.length fun c => !(leB U a b && leB U b c) || leB U a c) = true then R2 else false) := by
              refine Ev.succ ?_
              simp only [spec_OrderOk.j4]
              cases hx : (if a = b then !leB U a b else leB U a b && leB U b a) with
              | true => repeat (first | ((with_reducible refine Ev.ite_pos ?_ ?_); (first | assumption | (focus omega) | (focus (simp; done)))) | ((with_reducible refine Ev.ite_neg ?_ ?_); (first | assumption | (focus omega) | (focus (simp; done)))))
                        exact Ev.now _
              | false =>
                rw [hx, Bool.not_false, Bool.true_and] at hR2
                rw [Bool.not_false, Bool.true_and]
                repeat (first | ((with_reducible refine Ev.ite_pos ?_ ?_); (first | assumption | (focus omega) | (focus (simp; done)))) | ((with_reducible refine Ev.ite_neg ?_ ?_); (first | assumption | (focus omega) | (focus (simp; done)))))
                refine Ev.all (n := U.length) (g := fun k i => spec_OrderOk.l4 k U U.length a b i) _ (by omega) (fun h => ?_) fun c hc _ R3 hR3 => ?_
                · refine Ev.succ ?_
                  simp only [spec_OrderOk.l4]
                  repeat (first | ((with_reducible refine Ev.ite_pos ?_ ?_); (first | assumption | (focus omega) | (focus (simp; done)))) | ((with_reducible refine Ev.ite_neg ?_ ?_); (first | assumption | (focus omega) | (focus (simp; done)))))
                  exact hR2 (allN_iff.2 h)
                · refine Ev.succ ?_
                  have vbc := bit b c hb hc
                  have vac := bit a c ha hc
                  have ra := row a ha
                  have rb := row b hb
                  simp only [spec_OrderOk.l4, rdL_nat, rd_nat, rd_row, ra, rb, vab, vbc, vac]
                  repeat (first | ((with_reducible refine Ev.ite_pos ?_ ?_); (first | assumption | (focus omega) | (focus (simp; done)))) | ((with_reducible refine Ev.ite_neg ?_ ?_); (first | assumption | (focus omega) | (focus (simp; done)))))
                  cases f1 : leB U a b with
                  | false => repeat (first | ((with_reducible refine Ev.ite_pos ?_ ?_); (first | assumption | (focus omega) | (focus (simp; done)))) | ((with_reducible refine Ev.ite_neg ?_ ?_); (first | assumption | (focus omega) | (focus (simp; done)))))
                             exact hR3 (by simp [f1])
                  | true =>
                    repeat (first | ((with_reducible refine Ev.ite_pos ?_ ?_); (first | assumption | (focus omega) | (focus (simp; done)))) | ((with_reducible refine Ev.ite_neg ?_ ?_); (first | assumption | (focus omega) | (focus (simp; done)))))
                    cases f2 : leB U b c with
                    | false => repeat (first | ((with_reducible refine Ev.ite_pos ?_ ?_); (first | assumption | (focus omega) | (focus (simp; done)))) | ((with_reducible refine Ev.ite_neg ?_ ?_); (first | assumption | (focus omega) | (focus (simp; done)))))
                               exact hR3 (by simp [f2])
                    | true =>
                      repeat (first | ((with_reducible refine Ev.ite_pos ?_ ?_); (first | assumption | (focus omega) | (focus (simp; done)))) | ((with_reducible refine Ev.ite_neg ?_ ?_); (first | assumption | (focus omega) | (focus (simp; done)))))
                      cases f3 : leB U a c with
                      | false => repeat (first | ((with_reducible refine Ev.ite_pos ?_ ?_); (first | assumption | (focus omega) | (focus (simp; done)))) | ((with_reducible refine Ev.ite_neg ?_ ?_); (first | assumption | (focus omega) | (focus (simp; done)))))
                                 exact Ev.now _
                      | true => repeat (first | ((with_reducible refine Ev.ite_pos ?_ ?_); (first | assumption | (focus omega) | (focus (simp; done)))) | ((with_reducible refine Ev.ite_neg ?_ ?_); (first | assumption | (focus omega) | (focus (simp; done)))))
                                exact hR3 (by simp [f3])
            refine Ev.succ ?_
            have ra := row a ha
            have rb := row b hb
            simp only [spec_OrderOk.l3, rdL_nat, rd_nat, rd_row, ra, rb, vab, vba]
            repeat (first | ((with_reducible refine Ev.ite_pos ?_ ?_); (first | assumption | (focus omega) | (focus (simp; done)))) | ((with_reducible refine Ev.ite_neg ?_ ?_); (first | assumption | (focus omega) | (focus (simp; done)))))
            by_cases e : a = b
            · rw [if_pos e] at j4 ⊢
              repeat (first | ((with_reducible refine Ev.ite_pos ?_ ?_); (first | assumption | (focus omega) | (focus (simp; done)))) | ((with_reducible refine Ev.ite_neg ?_ ?_); (first | assumption | (focus omega) | (focus (simp; done)))))
              cases f1 : leB U a b with
              | false => rw [f1] at j4
                         repeat (first | ((with_reducible refine Ev.ite_pos ?_ ?_); (first | assumption | (focus omega) | (focus (simp; done)))) | ((with_reducible refine Ev.ite_neg ?_ ?_); (first | assumption | (focus omega) | (focus (simp; done)))))
                         exact j4
              | true => rw [f1] at j4
                        repeat (first | ((with_reducible refine Ev.ite_pos ?_ ?_); (first | assumption | (focus omega) | (focus (simp; done)))) | ((with_reducible refine Ev.ite_neg ?_ ?_); (first | assumption | (focus omega) | (focus (simp; done)))))
                        exact j4
            · rw [if_neg e] at j4 ⊢
              repeat (first | ((with_reducible refine Ev.ite_pos ?_ ?_); (first | assumption | (focus omega) | (focus (simp; done)))) | ((with_reducible refine Ev.ite_neg ?_ ?_); (first | assumption | (focus omega) | (focus (simp; done)))))
              cases f1 : leB U a b with
              | false => rw [f1] at j4
                         repeat (first | ((with_reducible refine Ev.ite_pos ?_ ?_); (first | assumption | (focus omega) | (focus (simp; done)))) | ((with_reducible refine Ev.ite_neg ?_ ?_); (first | assumption | (focus omega) | (focus (simp; done)))))
                         exact j4
              | true =>
                rw [f1] at j4
                repeat (first | ((with_reducible refine Ev.ite_pos ?_ ?_); (first | assumption | (focus omega) | (focus (simp; done)))) | ((with_reducible refine Ev.ite_neg ?_ ?_); (first | assumption | (focus omega) | (focus (simp; done)))))
                rw [show ((if leB U b a = true then (1 : Int) else 0) == 1) = leB U b a by cases leB U b a <;> rfl]
                exact j4
      · refine Ev.succ ?_
        simp only [spec_OrderOk.l0, rdL_nat]
        repeat (first | ((with_reducible refine Ev.ite_pos ?_ ?_); (first | assumption | (focus omega) | (focus (simp; done)))) | ((with_reducible refine Ev.ite_neg ?_ ?_); (first | assumption | (focus omega) | (focus (simp; done)))))
        by_cases e1 : (U.getD i []).length = U.length
        · repeat (first | ((with_reducible refine Ev.ite_pos ?_ ?_); (first | assumption | (focus omega) | (focus (simp; done)))) | ((with_reducible refine Ev.ite_neg ?_ ?_); (first | assumption | (focus omega) | (focus (simp; done)))))
          refine Ev.eq (Ev.all (n := U.length) (g := fun k j => spec_OrderOk.l1 k U U.length i j) (fun j => at2 U i j == 0 || at2 U i j == 1) (go := R) (stop := false) (by omega) (fun h => ?_) fun j hj _ R2 hR2 => ?_) (by unfold rowS; simp [-List.getD_eq_getElem?_getD, e1])
          · refine Ev.succ ?_
            simp only [spec_OrderOk.l1]
            repeat (first | ((with_reducible refine Ev.ite_pos ?_ ?_); (first | assumption | (focus omega) | (focus (simp; done)))) | ((with_reducible refine Ev.ite_neg ?_ ?_); (first | assumption | (focus omega) | (focus (simp; done)))))
            exact hR (by unfold rowS; simp only [e1, BEq.rfl, Bool.true_and]; exact allN_iff.2 h)
          · refine Ev.succ ?_
            simp only [spec_OrderOk.l1, rdL_nat, rd_nat, rd_row, l1In_eq]
            repeat (first | ((with_reducible refine Ev.ite_pos ?_ ?_); (first | assumption | (focus omega) | (focus (simp; done)))) | ((with_reducible refine Ev.ite_neg ?_ ?_); (first | assumption | (focus omega) | (focus (simp; done)))))
            refine Ev.pbind rfl ?_
            have e : (decide (0 ≤ at2 U i j) && decide (at2 U i j ≤ 1)) = (at2 U i j == 0 || at2 U i j == 1) := by
              rw [Bool.eq_iff_iff]; simp only [Bool.and_eq_true, decide_eq_true_eq, Bool.or_eq_true, beq_iff_eq]; omega
            rw [e]
            cases hb : (at2 U i j == 0 || at2 U i j == 1) with
            | true => repeat (first | ((with_reducible refine Ev.ite_pos ?_ ?_); (first | assumption | (focus omega) | (focus (simp; done)))) | ((with_reducible refine Ev.ite_neg ?_ ?_); (first | assumption | (focus omega) | (focus (simp; done)))))
                      exact hR2 hb
            | false => repeat (first | ((with_reducible refine Ev.ite_pos ?_ ?_); (first | assumption | (focus omega) | (focus (simp; done)))) | ((with_reducible refine Ev.ite_neg ?_ ?_); (first | assumption | (focus omega) | (focus (simp; done)))))
                       exact Ev.now _
        · repeat (first | ((with_reducible refine Ev.ite_pos ?_ ?_); (first | assumption | (focus omega) | (focus (simp; done)))) | ((with_reducible refine Ev.ite_neg ?_ ?_); (first | assumption | (focus omega) | (focus (simp; done)))))
          exact Ev.eq (Ev.now _) (by unfold rowS; simp [-List.getD_eq_getElem?_getD, e1])
    · rw [show (decide ((1 : Int) ≤ U.length) && decide ((U.length : Int) ≤ 12)) = false by simp; omega]
      simp only [h1, h2, decide_true, decide_false, Bool.true_and, Bool.false_and]
      repeat (first | ((with_reducible refine Ev.ite_pos ?_ ?_); (first | assumption | (focus omega) | (focus (simp; done)))) | ((with_reducible refine Ev.ite_neg ?_ ?_); (first | assumption | (focus omega) | (focus (simp; done)))))
      exact Ev.now _
  · rw [show (decide ((1 : Int) ≤ U.length) && decide ((U.length : Int) ≤ 12)) = false by simp; omega]
    simp only [h1, decide_false, Bool.false_and]
    repeat (first | ((with_reducible refine Ev.ite_pos ?_ ?_); (first | assumption | (focus omega) | (focus (simp; done)))) | ((with_reducible refine Ev.ite_neg ?_ ?_); (first | assumption | (focus omega) | (focus (simp; done)))))
    exact Ev.now _
theorem meetO_comm (U : List (List Int)) (a b : Nat) : meetO U a b = meetO U b a := by
  unfold meetO
  refine findN_congr fun c _ => ?_
  rw [Bool.eq_iff_iff, meetP_iff, meetP_iff]
  constructor <;> rintro ⟨h1, h2, h3⟩ <;> exact ⟨h2, h1, fun d hd k1 k2 => h3 d hd k2 k1⟩
theorem joinO_comm (U : List (List Int)) (a b : Nat) : joinO U a b = joinO U b a := by
  unfold joinO
  refine findN_congr fun c _ => ?_
  rw [Bool.eq_iff_iff, joinP_iff, joinP_iff]
  constructor <;> rintro ⟨h1, h2, h3⟩ <;> exact ⟨h2, h1, fun d hd k1 k2 => h3 d hd k2 k1⟩
theorem lattice_half {U : List (List Int)} (O : Order U) : (allN U.length fun a => allN U.length fun b => (meetO U a b).isSome && (joinO U a b).isSome) = allN U.length fun a => allN a fun b => (meetO U a b).isSome && (joinO U a b).isSome := by
  rw [Bool.eq_iff_iff]
  simp only [allN_iff]
  constructor
  · intro h a ha b hb
    exact h a ha b (by omega)
  · intro h a ha b hb
    rcases Nat.lt_trichotomy b a with hlt | rfl | hlt
    · exact h a ha b hlt
    · rw [O.meet_eq (a := b) (b := b) hb (meetP_iff.2 ⟨O.refl b hb, O.refl b hb, fun d _ h _ => h⟩), O.join_eq (a := b) (b := b) hb (joinP_iff.2 ⟨O.refl b hb, O.refl b hb, fun d _ h _ => h⟩)]
      rfl
    · rw [meetO_comm, joinO_comm]
      exact h b hb a hlt
theorem spec_LatticeOk.ev (U : List (List Int)) : Ev (fun k => spec_LatticeOk.f k U) (latticeB U) := by
  unfold spec_LatticeOk.f latticeB
  have ho := spec_OrderOk.ev U
  cases hb : orderB U with
  | false =>
    rw [hb] at ho
    have fin : Ev (fun k => spec_LatticeOk.j1 k U 0 false) false := by
      refine Ev.succ ?_
      simp only [spec_LatticeOk.j1]
      repeat (first | ((with_reducible refine Ev.ite_pos ?_ ?_); (first | assumption | (focus omega) | (focus (simp; done)))) | ((with_reducible refine Ev.ite_neg ?_ ?_); (first | assumption | (focus omega) | (focus (simp; done)))))
      exact Ev.bind ho (Ev.now _)
    refine Ev.succ ?_
    simp only [spec_LatticeOk.l0]
    by_cases h0 : (0 : Int) < (U.length : Int)
    · repeat (first | ((with_reducible refine Ev.ite_pos ?_ ?_); (first | assumption | (focus omega) | (focus (simp; done)))) | ((with_reducible refine Ev.ite_neg ?_ ?_); (first | assumption | (focus omega) | (focus (simp; done)))))
      exact Ev.bind ho fin
    · repeat (first | ((with_reducible refine Ev.ite_pos ?_ ?_); (first | assumption | (focus omega) | (focus (simp; done)))) | ((with_reducible refine Ev.ite_neg ?_ ?_); (first | assumption | (focus omega) | (focus (simp; done)))))
      exact fin
  | true =>
    rw [hb] at ho
    have O := orderB_iff.1 hb
    have hs := O.small
    refine Ev.eq (Ev.all (n := U.length) (g := fun k i => spec_LatticeOk.l0 k U i) (fun a => allN a fun b => (meetO U a b).isSome && (joinO U a b).isSome) (go := true) (stop := false) (by omega) (fun _ => ?_) fun a ha _ R hR => ?_) (by rw [Bool.true_and, lattice_half O]; cases allN U.length _ <;> rfl)
    · refine Ev.succ ?_
      simp only [spec_LatticeOk.l0]
      repeat (first | ((with_reducible refine Ev.ite_pos ?_ ?_); (first | assumption | (focus omega) | (focus (simp; done)))) | ((with_reducible refine Ev.ite_neg ?_ ?_); (first | assumption | (focus omega) | (focus (simp; done)))))
      refine Ev.succ ?_
      simp only [spec_LatticeOk.j1]
      repeat (first | ((with_reducible refine Ev.ite_pos ?_ ?_); (first | assumption | (focus omega) | (focus (simp; done)))) | ((with_reducible refine Ev.ite_neg ?_ ?_); (first | assumption | (focus omega) | (focus (simp; done)))))
      exact Ev.bind ho (Ev.now _)
    · refine Ev.succ ?_
      simp only [spec_LatticeOk.l0]
      repeat (first | ((with_reducible refine Ev.ite_pos ?_ ?_); (first | assumption | (focus omega) | (focus (simp; done)))) | ((with_reducible refine Ev.ite_neg ?_ ?_); (first | assumption | (focus omega) | (focus (simp; done)))))
      refine Ev.bind ho ?_
      refine Ev.succ ?_
      simp only [spec_LatticeOk.j1]
      repeat (first | ((with_reducible refine Ev.ite_pos ?_ ?_); (first | assumption | (focus omega) | (focus (simp; done)))) | ((with_reducible refine Ev.ite_neg ?_ ?_); (first | assumption | (focus omega) | (focus (simp; done)))))
      refine Ev.all (n := a) (g := fun k i => spec_LatticeOk.l1 k U a i) _ (by omega) (fun h => ?_) fun b hb' _ R2 hR2 => ?_
      · refine Ev.succ ?_
        simp only [spec_LatticeOk.l1]
        repeat (first | ((with_reducible refine Ev.ite_pos ?_ ?_); (first | assumption | (focus omega) | (focus (simp; done)))) | ((with_reducible refine Ev.ite_neg ?_ ?_); (first | assumption | (focus omega) | (focus (simp; done)))))
        exact hR (allN_iff.2 h)
      · refine Ev.succ ?_
        have hb : b < U.length := by omega
        simp only [spec_LatticeOk.l1]
        repeat (first | ((with_reducible refine Ev.ite_pos ?_ ?_); (first | assumption | (focus omega) | (focus (simp; done)))) | ((with_reducible refine Ev.ite_neg ?_ ?_); (first | assumption | (focus omega) | (focus (simp; done)))))
        refine Ev.bind (spec_l1Meet.ev O ha hb) ?_
        unfold mI
        cases em : meetO U a b with
        | none => refine Ev.ite_pos (by simp [optI]) ?_
                  exact Ev.eq (Ev.now _) (by simp)
        | some m =>
          refine Ev.ite_neg (by have := optI_neg (some 0); simp [optI]) ?_
          refine Ev.bind (spec_l1Join.ev O ha hb) ?_
          unfold jI
          cases ej : joinO U a b with
          | none => refine Ev.ite_pos (by simp [optI]) ?_
                    exact Ev.eq (Ev.now _) (by simp)
          | some j =>
            refine Ev.ite_neg (by have := optI_neg (some 0); simp [optI]) ?_
            exact Ev.eq (hR2 (by simp [em, ej])) (by simp)
theorem spec_LeastOf.ev (U : List (List Int)) : Ev (fun k => spec_LeastOf.f k U) (if orderB U = true then (optI (leastO U), (leastO U).isSome) else (-1, false)) := by
  unfold spec_LeastOf.f
  have ho := spec_OrderOk.ev U
  cases hb : orderB U with
  | false =>
    rw [hb] at ho
    have fin : Ev (fun k => spec_LeastOf.j1 k U 0 false) (-1, false) := by
      refine Ev.succ ?_
      simp only [spec_LeastOf.j1]
      repeat (first | ((with_reducible refine Ev.ite_pos ?_ ?_); (first | assumption | (focus omega) | (focus (simp; done)))) | ((with_reducible refine Ev.ite_neg ?_ ?_); (first | assumption | (focus omega) | (focus (simp; done)))))
      exact Ev.now _
    repeat (first | ((with_reducible refine Ev.ite_pos ?_ ?_); (first | assumption | (focus omega) | (focus (simp; done)))) | ((with_reducible refine Ev.ite_neg ?_ ?_); (first | assumption | (focus omega) | (focus (simp; done)))))
    refine Ev.succ ?_
    simp only [spec_LeastOf.l0]
    by_cases h0 : (0 : Int) < (U.length : Int)
    · repeat (first | ((with_reducible refine Ev.ite_pos ?_ ?_); (first | assumption | (focus omega) | (focus (simp; done)))) | ((with_reducible refine Ev.ite_neg ?_ ?_); (first | assumption | (focus omega) | (focus (simp; done)))))
      exact Ev.eq (Ev.bind ho fin) (by simp)
    · repeat (first | ((with_reducible refine Ev.ite_pos ?_ ?_); (first | assumption | (focus omega) | (focus (simp; done)))) | ((with_reducible refine Ev.ite_neg ?_ ?_); (first | assumption | (focus omega) | (focus (simp; done)))))
      exact Ev.eq fin (by simp)
  | true =>
    rw [hb] at ho
    have O := orderB_iff.1 hb
    have hs := O.small
    refine Ev.eq (Ev.find (n := U.length) (g := fun k i => spec_LeastOf.l0 k U i) (fun a => allN U.length fun b => leB U a b) (none' := (-1, false)) (some' := fun i => ((i : Int), true)) (by omega) (fun _ => ?_) fun a ha _ R hR => ?_) (by rw [if_pos rfl]; unfold leastO; cases findN U.length _ <;> rfl)
    · refine Ev.succ ?_
      simp only [spec_LeastOf.l0]
      repeat (first | ((with_reducible refine Ev.ite_pos ?_ ?_); (first | assumption | (focus omega) | (focus (simp; done)))) | ((with_reducible refine Ev.ite_neg ?_ ?_); (first | assumption | (focus omega) | (focus (simp; done)))))
      refine Ev.succ ?_
      simp only [spec_LeastOf.j1]
      repeat (first | ((with_reducible refine Ev.ite_pos ?_ ?_); (first | assumption | (focus omega) | (focus (simp; done)))) | ((with_reducible refine Ev.ite_neg ?_ ?_); (first | assumption | (focus omega) | (focus (simp; done)))))
      exact Ev.now _
    · refine Ev.succ ?_
      simp only [spec_LeastOf.l0]
      repeat (first | ((with_reducible refine Ev.ite_pos ?_ ?_); (first | assumption | (focus omega) | (focus (simp; done)))) | ((with_reducible refine Ev.ite_neg ?_ ?_); (first | assumption | (focus omega) | (focus (simp; done)))))
      refine Ev.bind ho ?_
      refine Ev.succ ?_
      simp only [spec_LeastOf.j1]
      repeat (first | ((with_reducible refine Ev.ite_pos ?_ ?_); (first | assumption | (focus omega) | (focus (simp; done)))) | ((with_reducible refine Ev.ite_neg ?_ ?_); (first | assumption | (focus omega) | (focus (simp; done)))))
      have key : ∀ d i, i + d = U.length → ∀ fl : Bool, (fl && allFrom U.length (fun b => leB U a b) i) = allN U.length (fun b => leB U a b) → Ev (fun k => spec_LeastOf.l1 k U a fl i) (if allN U.length (fun b => leB U a b) = true then ((a : Int), true) else R) := by
        intro d
        induction d with
        | zero =>
          intro i hi fl hfl
          refine Ev.succ ?_
          simp only [spec_LeastOf.l1]
          rw [allFrom_ge (by omega), Bool.and_true] at hfl
          rw [hfl]
          repeat (first | ((with_reducible refine Ev.ite_pos ?_ ?_); (first | assumption | (focus omega) | (focus (simp; done)))) | ((with_reducible refine Ev.ite_neg ?_ ?_); (first | assumption | (focus omega) | (focus (simp; done)))))
          cases ha' : allN U.length (fun b => leB U a b) with
          | true => repeat (first | ((with_reducible refine Ev.ite_pos ?_ ?_); (first | assumption | (focus omega) | (focus (simp; done)))) | ((with_reducible refine Ev.ite_neg ?_ ?_); (first | assumption | (focus omega) | (focus (simp; done)))))
                    exact Ev.now _
          | false => repeat (first | ((with_reducible refine Ev.ite_pos ?_ ?_); (first | assumption | (focus omega) | (focus (simp; done)))) | ((with_reducible refine Ev.ite_neg ?_ ?_); (first | assumption | (focus omega) | (focus (simp; done)))))
                     exact hR ha'
        | succ d ih =>
          intro i hi fl hfl
          rw [allFrom_lt (by omega)] at hfl
          refine Ev.succ ?_
          have rl := O.row a ha
          simp only [spec_LeastOf.l1, rdL_nat, rd_nat, rd_row, wrap_nat (show i < 4611686018427387904 by omega), rl]
          repeat (first | ((with_reducible refine Ev.ite_pos ?_ ?_); (first | assumption | (focus omega) | (focus (simp; done)))) | ((with_reducible refine Ev.ite_neg ?_ ?_); (first | assumption | (focus omega) | (focus (simp; done)))))
          cases fl with
          | true => repeat (first | ((with_reducible refine Ev.ite_pos ?_ ?_); (first | assumption | (focus omega) | (focus (simp; done)))) | ((with_reducible refine Ev.ite_neg ?_ ?_); (first | assumption | (focus omega) | (focus (simp; done)))))
                    exact ih (i + 1) (by omega) _ hfl
          | false => repeat (first | ((with_reducible refine Ev.ite_pos ?_ ?_); (first | assumption | (focus omega) | (focus (simp; done)))) | ((with_reducible refine Ev.ite_neg ?_ ?_); (first | assumption | (focus omega) | (focus (simp; done)))))
                     exact ih (i + 1) (by omega) _ (by rw [← hfl]; simp)
      exact key U.length 0 (by omega) true (by rw [allFrom_zero, Bool.true_and])
def negS (U : List (List Int)) (N : List Int) (a : Nat) : Bool :=
  at1 N (at1 N a).toNat == (a : Int) && (mI U a (at1 N a).toNat == optI (leastO U) && allN U.length fun b => !leB U a b || leB U (at1 N b).toNat (at1 N a).toNat)
theorem logicB_spec (U : List (List Int)) (N : List Int) : logicB U N = (latticeB U && (N.length == U.length && (allN U.length (fun a => decide (0 ≤ at1 N a) && decide (at1 N a < U.length)) && allN U.length (negS U N)))) := by
  unfold logicB negS mI
  have e : ∀ x y : Option Nat, (optI x == optI y) = (x == y) := by
    intro x y
    rw [Bool.eq_iff_iff, beq_iff_eq, beq_iff_eq]
    exact ⟨optI_inj, fun h => by rw [h]⟩
  simp only [e]
theorem spec_LogicOk.ev (U : List (List Int)) (N : List Int) : Ev (fun k => spec_LogicOk.f k U N) (logicB U N) := by
  rw [logicB_spec]
  unfold spec_LogicOk.f
  refine Ev.bind (spec_LatticeOk.ev U) ?_
  have jf : Ev (fun k => spec_LogicOk.j0 k U.length true U N) false := by
    refine Ev.succ ?_
    simp only [spec_LogicOk.j0]
    repeat (first | ((with_reducible refine Ev.ite_pos ?_ ?_); (first | assumption | (focus omega) | (focus (simp; done)))) | ((with_reducible refine Ev.ite_neg ?_ ?_); (first | assumption | (focus omega) | (focus (simp; done)))))
    exact Ev.now _
  cases hl : latticeB U with
  | false => repeat (first | ((with_reducible refine Ev.ite_pos ?_ ?_); (first | assumption | (focus omega) | (focus (simp; done)))) | ((with_reducible refine Ev.ite_neg ?_ ?_); (first | assumption | (focus omega) | (focus (simp; done)))))
             exact Ev.eq jf (by simp)
  | true =>
    have O := latticeB_order hl
    have hs := O.small
    repeat (first | ((with_reducible refine Ev.ite_pos ?_ ?_); (first | assumption | (focus omega) | (focus (simp; done)))) | ((with_reducible refine Ev.ite_neg ?_ ?_); (first | assumption | (focus omega) | (focus (simp; done)))))
    by_cases hn : N.length = U.length
    · rw [show ((N.length : Int) != (U.length : Int)) = false by rw [hn]; simp, show (N.length == U.length) = true by simp [hn]]
      simp only [Bool.true_and]
      refine Ev.succ ?_
      simp only [spec_LogicOk.j0]
      repeat (first | ((with_reducible refine Ev.ite_pos ?_ ?_); (first | assumption | (focus omega) | (focus (simp; done)))) | ((with_reducible refine Ev.ite_neg ?_ ?_); (first | assumption | (focus omega) | (focus (simp; done)))))
      refine Ev.eq (Ev.all (n := U.length) (g := fun k i => spec_LogicOk.l0 k U.length i U N) (fun a => decide (0 ≤ at1 N a) && decide (at1 N a < U.length)) (go := allN U.length (negS U N)) (stop := false) (by omega) (fun hr => ?_) fun i hi _ R hR => ?_) (by cases allN U.length fun a => decide (0 ≤ at1 N a) && decide (at1 N a < U.length) <;> rfl)
      · have ran : ∀ a, a < U.length → ∃ m : Nat, at1 N a = m ∧ m < U.length := fun a ha => by
          have := hr a ha
          simp only [Bool.and_eq_true, decide_eq_true_eq] at this
          exact ⟨(at1 N a).toNat, by omega, by omega⟩
        refine Ev.succ ?_
        simp only [spec_LogicOk.l0]
        repeat (first | ((with_reducible refine Ev.ite_pos ?_ ?_); (first | assumption | (focus omega) | (focus (simp; done)))) | ((with_reducible refine Ev.ite_neg ?_ ?_); (first | assumption | (focus omega) | (focus (simp; done)))))
        refine Ev.bind (spec_LeastOf.ev U) ?_
        rw [if_pos (orderB_iff.2 O)]
        refine Ev.eq (Ev.all (n := U.length) (g := fun k i => spec_LogicOk.l1 k U.length (optI (leastO U)) i U N) (negS U N) (go := true) (stop := false) (by omega) (fun _ => ?_) fun a ha _ R hR => ?_) (by cases allN U.length (negS U N) <;> rfl)
        · refine Ev.succ ?_
          simp only [spec_LogicOk.l1]
          repeat (first | ((with_reducible refine Ev.ite_pos ?_ ?_); (first | assumption | (focus omega) | (focus (simp; done)))) | ((with_reducible refine Ev.ite_neg ?_ ?_); (first | assumption | (focus omega) | (focus (simp; done)))))
          exact Ev.now _
        · obtain ⟨m, hm, hmn⟩ := ran a ha
          have fal : Ev (fun k => spec_LogicOk.j3 k U.length (optI (leastO U)) a true U N) false := by
            refine Ev.succ ?_
            simp only [spec_LogicOk.j3]
            repeat (first | ((with_reducible refine Ev.ite_pos ?_ ?_); (first | assumption | (focus omega) | (focus (simp; done)))) | ((with_reducible refine Ev.ite_neg ?_ ?_); (first | assumption | (focus omega) | (focus (simp; done)))))
            exact Ev.now _
          refine Ev.succ ?_
          simp only [spec_LogicOk.l1, rd_nat, hm]
          have hneg : negS U N a = (at1 N m == (a : Int) && (mI U a m == optI (leastO U) && allN U.length fun b => !leB U a b || leB U (at1 N b).toNat m)) := by unfold negS; rw [hm, Int.toNat_natCast]
          repeat (first | ((with_reducible refine Ev.ite_pos ?_ ?_); (first | assumption | (focus omega) | (focus (simp; done)))) | ((with_reducible refine Ev.ite_neg ?_ ?_); (first | assumption | (focus omega) | (focus (simp; done)))))
          by_cases e1 : at1 N m = a
          · repeat (first | ((with_reducible refine Ev.ite_pos ?_ ?_); (first | assumption | (focus omega) | (focus (simp; done)))) | ((with_reducible refine Ev.ite_neg ?_ ?_); (first | assumption | (focus omega) | (focus (simp; done)))))
            refine Ev.bind (spec_l1Meet.ev O ha hmn) ?_
            by_cases e2 : mI U a m = optI (leastO U)
            · rw [show (mI U a m != optI (leastO U)) = false by simp [e2]]
              refine Ev.succ ?_
              simp only [spec_LogicOk.j3]
              repeat (first | ((with_reducible refine Ev.ite_pos ?_ ?_); (first | assumption | (focus omega) | (focus (simp; done)))) | ((with_reducible refine Ev.ite_neg ?_ ?_); (first | assumption | (focus omega) | (focus (simp; done)))))
              have hneg2 : negS U N a = allN U.length fun b => !leB U a b || leB U (at1 N b).toNat m := by rw [hneg, show (at1 N m == (a : Int)) = true by simp [e1], show (mI U a m == optI (leastO U)) = true by simp [e2], Bool.true_and, Bool.true_and]
              rw [hneg2]
              refine Ev.all (n := U.length) (g := fun k i => spec_LogicOk.l2 k U.length (optI (leastO U)) a i U N) _ (by omega) (fun h => ?_) fun b hb _ R3 hR3 => ?_
              · refine Ev.succ ?_
                simp only [spec_LogicOk.l2]
                repeat (first | ((with_reducible refine Ev.ite_pos ?_ ?_); (first | assumption | (focus omega) | (focus (simp; done)))) | ((with_reducible refine Ev.ite_neg ?_ ?_); (first | assumption | (focus omega) | (focus (simp; done)))))
                exact hR (by rw [hneg2]; exact allN_iff.2 h)
              · obtain ⟨q, hq, hqn⟩ := ran b hb
                have vab := O.val ha hb
                have vqm := O.val hqn hmn
                have ra := O.row a ha
                have rq := O.row q hqn
                refine Ev.succ ?_
                simp only [spec_LogicOk.l2, rdL_nat, rd_nat, rd_row, hq, hm, ra, rq, vab, vqm, Int.toNat_natCast]
                rw [hq, Int.toNat_natCast] at hR3
                repeat (first | ((with_reducible refine Ev.ite_pos ?_ ?_); (first | assumption | (focus omega) | (focus (simp; done)))) | ((with_reducible refine Ev.ite_neg ?_ ?_); (first | assumption | (focus omega) | (focus (simp; done)))))
                cases f1 : leB U a b with
                | false => repeat (first | ((with_reducible refine Ev.ite_pos ?_ ?_); (first | assumption | (focus omega) | (focus (simp; done)))) | ((with_reducible refine Ev.ite_neg ?_ ?_); (first | assumption | (focus omega) | (focus (simp; done)))))
                           exact hR3 (by simp [f1])
                | true =>
                  repeat (first | ((with_reducible refine Ev.ite_pos ?_ ?_); (first | assumption | (focus omega) | (focus (simp; done)))) | ((with_reducible refine Ev.ite_neg ?_ ?_); (first | assumption | (focus omega) | (focus (simp; done)))))
                  cases f2 : leB U q m with
                  | false => repeat (first | ((with_reducible refine Ev.ite_pos ?_ ?_); (first | assumption | (focus omega) | (focus (simp; done)))) | ((with_reducible refine Ev.ite_neg ?_ ?_); (first | assumption | (focus omega) | (focus (simp; done)))))
                             exact Ev.now _
                  | true => repeat (first | ((with_reducible refine Ev.ite_pos ?_ ?_); (first | assumption | (focus omega) | (focus (simp; done)))) | ((with_reducible refine Ev.ite_neg ?_ ?_); (first | assumption | (focus omega) | (focus (simp; done)))))
                            exact hR3 (by simp [f2])
            · rw [show (mI U a m != optI (leastO U)) = true by simp [e2]]
              exact Ev.eq fal (by rw [hneg]; simp [e2])
          · repeat (first | ((with_reducible refine Ev.ite_pos ?_ ?_); (first | assumption | (focus omega) | (focus (simp; done)))) | ((with_reducible refine Ev.ite_neg ?_ ?_); (first | assumption | (focus omega) | (focus (simp; done)))))
            exact Ev.eq fal (by rw [hneg]; simp [e1])
      · refine Ev.succ ?_
        simp only [spec_LogicOk.l0, rd_nat, l1In_eq]
        repeat (first | ((with_reducible refine Ev.ite_pos ?_ ?_); (first | assumption | (focus omega) | (focus (simp; done)))) | ((with_reducible refine Ev.ite_neg ?_ ?_); (first | assumption | (focus omega) | (focus (simp; done)))))
        refine Ev.pbind rfl ?_
        have e : (decide (0 ≤ at1 N i) && decide (at1 N i ≤ wrap64 ((U.length : Int) - 1))) = (decide (0 ≤ at1 N i) && decide (at1 N i < U.length)) := by
          rw [wrap_small (by omega) (by omega)]
          congr 1
          rw [decide_eq_decide]; omega
        rw [e]
        cases hb : (decide (0 ≤ at1 N i) && decide (at1 N i < U.length)) with
        | true => repeat (first | ((with_reducible refine Ev.ite_pos ?_ ?_); (first | assumption | (focus omega) | (focus (simp; done)))) | ((with_reducible refine Ev.ite_neg ?_ ?_); (first | assumption | (focus omega) | (focus (simp; done)))))
                  exact hR hb
        | false => repeat (first | ((with_reducible refine Ev.ite_pos ?_ ?_); (first | assumption | (focus omega) | (focus (simp; done)))) | ((with_reducible refine Ev.ite_neg ?_ ?_); (first | assumption | (focus omega) | (focus (simp; done)))))
                   exact Ev.now _
    · rw [show ((N.length : Int) != (U.length : Int)) = true by rw [bne_iff_ne]; omega, show (N.length == U.length) = false by simp [hn]]
      exact Ev.eq jf (by simp)
end Go.Proofs.Ythideghgdmokkaa.Print
end
section
namespace Go.Proofs.Ythideghgdmokkaa.Print
open Go.RowKit Go.Proofs.YthideghgdmokkaaW.PrintWords Go.Proofs.YthideghgdmokkaaW.PrintLast Go.Proofs.YthideghgdmokkaaW.PrintMore
attribute [local go_sem] max2_int min2_int max_two min_two max_three min_three max_four min_four   -- for this text's walks alone
set_option linter.unusedVariables false
set_option linter.unusedSimpArgs false
def spec_NoOf.f (k : Nat) (l0_0 : List (List Int)) (l0_1 : List Int) : Option (Int) := (spec_LogicOk.f k l0_0 l0_1).bind fun t184 => (if t184 = true then ((spec_LeastOf.f k l0_0).bind fun bt185 => (some bt185.1)) else (some (-1)))
set_option maxHeartbeats 8000000 in
set_option maxRecDepth 100000 in
theorem spec_NoOf.calls (k : Nat) (A0_0 : Option Addr) (c0_0 : Nat) (l0_0 : List (List Int)) (A0_1 : Option Addr) (c0_1 : Nat) (l0_1 : List Int) (r : Int) (w : World) (hr0_0 : Kd.C (Kd.slice 3 (Kd.int .i64)) w A0_0 l0_0.length l0_0) (hc0_0 : l0_0.length ≤ c0_0) (hr0_1 : Kd.C (Kd.int .i64) w A0_1 l0_1.length l0_1) (hc0_1 : l0_1.length ≤ c0_1) (h : spec_NoOf.f k l0_0 l0_1 = some r) :
  Calls Try.prog 72 #[.agg #[.slice A0_0 l0_0.length c0_0, .slice A0_1 l0_1.length c0_1]] w fun e w' => e = .returned (.int .i64 r) ∧ Below w.heap.size w w' := by
 have hu28 := Try.underlying28
 have HR0_0 := Aside0.mk hr0_0
 have HC0_0 := Aside0.mk hc0_0
 clear hr0_0 hc0_0
 have HR0_1 := Aside0.mk hr0_1
 have HC0_1 := Aside0.mk hc0_1
 clear hr0_1 hc0_1
 have HB := Aside0.mk (Below.refl w.heap.size w)
 have H : ((spec_LogicOk.f k l0_0 l0_1).bind fun t184 => (if t184 = true then ((spec_LeastOf.f k l0_0).bind fun bt185 => (some bt185.1)) else (some (-1)))) = some r := h
 clear h
 replace H := Option.bind_eq_some_iff.mp H
 obtain ⟨t184, A20, H⟩ := H
 replace H : (if t184 = true then ((spec_LeastOf.f k l0_0).bind fun bt185 => (some bt185.1)) else (some (-1))) = some r := H
 have A2 := Aside0.mk A20
 clear A20
 by_cases c3 : t184 = true
 ·subst c3
  have H1 : ((spec_LeastOf.f k l0_0).bind fun bt185 => (some bt185.1)) = some r := by rw [if_pos rfl] at H; exact H
  clear H
  have H := H1
  clear H1
  replace H := Option.bind_eq_some_iff.mp H
  obtain ⟨⟨t185, t186⟩, A40, H⟩ := H
  replace H : (some t185) = some r := H
  have A4 := Aside0.mk A40
  clear A40
  obtain rfl := Option.some.inj H
  go_enter Try.func72, Try.ntmps72
  go_wp2_with (first | ((with_reducible refine gate_dst (N := 1) rfl ?_); refine box_event ?hg (N := 1) ?hd (cs := #[.slice A0_0 l0_0.length c0_0, .slice A0_1 l0_1.length c0_1]) (t := 28) ?hr ?_; (case hd => rfl); (case hg => rfl); (case hr => first | (go_simp; done) | (go_simp; rfl)); intro gb183 hg w5 hbox hb; have n0_ := Aside0.mk (below_step (by repeat (first | (with_reducible first | exact HB.out | apply below_alloc | apply pw_below_drewN | apply below_drew1) | exact HB.out)) hb); have n1_ := Aside0.mk (hbox); have n2_ := Aside0.mk ((by rw [hg]; exact (below_size (by repeat (first | (with_reducible first | exact HB.out | apply below_alloc | apply pw_below_drewN | apply below_drew1) | exact HB.out))) : w.heap.size ≤ gb183)); have n3_ := Aside0.mk ((by rw [hg]; exact (below_size (by repeat (first | (with_reducible first | exact HB.out | apply below_alloc | apply pw_below_drewN | apply below_drew1) | exact HB.out))) : w.heap.size ≤ gb183)); clear HB; have HB := n0_; have BK183 := n1_; have GW183 := n2_; have GE183 := n3_; clear n0_ n1_ n2_ n3_; clear hb hbox hg; have hcz6_0 : w5.cell? ⟨gb183, 0, none⟩ = some (.slice A0_0 l0_0.length c0_0) := (blk_cell BK183.out 0).trans rfl; have hcz6_1 : w5.cell? ⟨gb183, 1, none⟩ = some (.slice A0_1 l0_1.length c0_1) := (blk_cell BK183.out 1).trans rfl; have hfz6_0 := blk_frozen BK183.out 0; have hfz6_1 := blk_frozen BK183.out 1) | ((with_reducible refine gate_callee (f := 51) rfl ?_); refine goesL_ (some 6) rfl rfl Try.func51 (by kernel_rfl) rfl #[.agg #[.slice A0_0 l0_0.length c0_0, .slice A0_1 l0_1.length c0_1]] rfl (by (try simp only [List.map_toArray, List.map_cons, List.map_nil]); first | done | rfl | (simp only [List.length_drop, List.length_take]; rfl)) ?_; (with_reducible refine (spec_LogicOk.calls k _ _ l0_0 _ _ l0_1 true _ ?side1 ?side2 ?side3 ?side4 A2.out).mono ?_); (case side1 => repeat (first | exact (Kd.C_below HR0_0.out HB.out) | (with_reducible refine Kd.C_alloc ?_ _) | (with_reducible refine Kd.C_drewN ?_ _) | (with_reducible refine Kd.C_drew ?_))); (case side2 => exact HC0_0.out); (case side3 => repeat (first | exact (Kd.C_below HR0_1.out HB.out) | (with_reducible refine Kd.C_alloc ?_ _) | (with_reducible refine Kd.C_drewN ?_ _) | (with_reducible refine Kd.C_drew ?_))); (case side4 => exact HC0_1.out); rintro e w7 ⟨rfl, hb⟩; refine ⟨_, rfl, ?_⟩; have n0_ := Aside0.mk (blk_below (g := gb183) (o := .cells #[.slice A0_0 l0_0.length c0_0, .slice A0_1 l0_1.length c0_1] 28 (0, 0)) (by (with_reducible repeat (first | refine blk_drewN ?_ _ | refine blk_drew ?_ | refine blk_alloc ?_ _)); exact BK183.out) hb); have n1_ := Aside0.mk (below_step (by repeat (first | (with_reducible first | exact HB.out | apply below_alloc | apply pw_below_drewN | apply below_drew1 | refine below_set ?_ GE183.out) | exact HB.out)) hb); clear BK183; clear HB; have BK183 := n0_; have HB := n1_; clear n0_ n1_; (try clear hb); (try clear hb2); (try clear hk); (try clear hi); have hcz8_0 : w7.cell? ⟨gb183, 0, none⟩ = some (.slice A0_0 l0_0.length c0_0) := (blk_cell BK183.out 0).trans rfl; have hcz8_1 : w7.cell? ⟨gb183, 1, none⟩ = some (.slice A0_1 l0_1.length c0_1) := (blk_cell BK183.out 1).trans rfl; have hfz8_0 := blk_frozen BK183.out 0; have hfz8_1 := blk_frozen BK183.out 1) | ((with_reducible refine gate_callee (f := 100) rfl ?_); refine goesL_ (some 11) rfl rfl Try.func100 (by kernel_rfl) rfl #[.slice A0_0 l0_0.length c0_0] rfl (by (try simp only [List.map_toArray, List.map_cons, List.map_nil]); first | done | rfl | (simp only [List.length_drop, List.length_take]; rfl)) ?_; (with_reducible refine (spec_LeastOf.calls k _ _ l0_0 t185 t186 _ ?side1 ?side2 A4.out).mono ?_); (case side1 => repeat (first | exact (Kd.C_below HR0_0.out HB.out) | (with_reducible refine Kd.C_alloc ?_ _) | (with_reducible refine Kd.C_drewN ?_ _) | (with_reducible refine Kd.C_drew ?_))); (case side2 => exact HC0_0.out); rintro e w' ⟨rfl, ⟨nd, rfl⟩⟩; refine ⟨_, rfl, ?_⟩))
  go_ret
  exact ⟨by first | rfl | (simp [errW_none, errW_some] <;> rfl) | (simp [*, errW_none, errW_some] <;> rfl), by repeat (first | (with_reducible first | exact HB.out | apply below_alloc | apply pw_below_drewN | apply below_drew1 | refine below_set ?_ GE183.out) | exact HB.out)⟩
 ·replace c3 := Bool.eq_false_iff.mpr c3
  subst c3
  have H1 : (some (-1)) = some r := by rw [if_neg (show ¬ (false = true) by decide)] at H; exact H
  clear H
  have H := H1
  clear H1
  obtain rfl := Option.some.inj H
  go_enter Try.func72, Try.ntmps72
  go_wp2_with (first | ((with_reducible refine gate_dst (N := 1) rfl ?_); refine box_event ?hg (N := 1) ?hd (cs := #[.slice A0_0 l0_0.length c0_0, .slice A0_1 l0_1.length c0_1]) (t := 28) ?hr ?_; (case hd => rfl); (case hg => rfl); (case hr => first | (go_simp; done) | (go_simp; rfl)); intro gb183 hg w9 hbox hb; have n0_ := Aside0.mk (below_step (by repeat (first | (with_reducible first | exact HB.out | apply below_alloc | apply pw_below_drewN | apply below_drew1) | exact HB.out)) hb); have n1_ := Aside0.mk (hbox); have n2_ := Aside0.mk ((by rw [hg]; exact (below_size (by repeat (first | (with_reducible first | exact HB.out | apply below_alloc | apply pw_below_drewN | apply below_drew1) | exact HB.out))) : w.heap.size ≤ gb183)); have n3_ := Aside0.mk ((by rw [hg]; exact (below_size (by repeat (first | (with_reducible first | exact HB.out | apply below_alloc | apply pw_below_drewN | apply below_drew1) | exact HB.out))) : w.heap.size ≤ gb183)); clear HB; have HB := n0_; have BK183 := n1_; have GW183 := n2_; have GE183 := n3_; clear n0_ n1_ n2_ n3_; clear hb hbox hg; have hcz10_0 : w9.cell? ⟨gb183, 0, none⟩ = some (.slice A0_0 l0_0.length c0_0) := (blk_cell BK183.out 0).trans rfl; have hcz10_1 : w9.cell? ⟨gb183, 1, none⟩ = some (.slice A0_1 l0_1.length c0_1) := (blk_cell BK183.out 1).trans rfl; have hfz10_0 := blk_frozen BK183.out 0; have hfz10_1 := blk_frozen BK183.out 1) | ((with_reducible refine gate_callee (f := 51) rfl ?_); refine goesL_ (some 6) rfl rfl Try.func51 (by kernel_rfl) rfl #[.agg #[.slice A0_0 l0_0.length c0_0, .slice A0_1 l0_1.length c0_1]] rfl (by (try simp only [List.map_toArray, List.map_cons, List.map_nil]); first | done | rfl | (simp only [List.length_drop, List.length_take]; rfl)) ?_; (with_reducible refine (spec_LogicOk.calls k _ _ l0_0 _ _ l0_1 false _ ?side1 ?side2 ?side3 ?side4 A2.out).mono ?_); (case side1 => repeat (first | exact (Kd.C_below HR0_0.out HB.out) | (with_reducible refine Kd.C_alloc ?_ _) | (with_reducible refine Kd.C_drewN ?_ _) | (with_reducible refine Kd.C_drew ?_))); (case side2 => exact HC0_0.out); (case side3 => repeat (first | exact (Kd.C_below HR0_1.out HB.out) | (with_reducible refine Kd.C_alloc ?_ _) | (with_reducible refine Kd.C_drewN ?_ _) | (with_reducible refine Kd.C_drew ?_))); (case side4 => exact HC0_1.out); rintro e w11 ⟨rfl, hb⟩; refine ⟨_, rfl, ?_⟩; have n0_ := Aside0.mk (blk_below (g := gb183) (o := .cells #[.slice A0_0 l0_0.length c0_0, .slice A0_1 l0_1.length c0_1] 28 (0, 0)) (by (with_reducible repeat (first | refine blk_drewN ?_ _ | refine blk_drew ?_ | refine blk_alloc ?_ _)); exact BK183.out) hb); have n1_ := Aside0.mk (below_step (by repeat (first | (with_reducible first | exact HB.out | apply below_alloc | apply pw_below_drewN | apply below_drew1 | refine below_set ?_ GE183.out) | exact HB.out)) hb); clear BK183; clear HB; have BK183 := n0_; have HB := n1_; clear n0_ n1_; (try clear hb); (try clear hb2); (try clear hk); (try clear hi)))
  go_ret
  exact ⟨by first | rfl | (simp [errW_none, errW_some] <;> rfl) | (simp [*, errW_none, errW_some] <;> rfl), by repeat (first | (with_reducible first | exact HB.out | apply below_alloc | apply pw_below_drewN | apply below_drew1 | refine below_set ?_ GE183.out) | exact HB.out)⟩
end Go.Proofs.Ythideghgdmokkaa.Print
end
section
namespace Go.Proofs.Ythideghgdmokkaa.Print
open Go.RowKit Go.Proofs.YthideghgdmokkaaW.PrintWords Go.Proofs.YthideghgdmokkaaW.PrintLast Go.Proofs.YthideghgdmokkaaW.PrintMore
set_option linter.unusedVariables false
set_option linter.unusedSimpArgs false
open Oml
theorem spec_NoOf.ev (U : List (List Int)) (N : List Int) : Ev (fun k => spec_NoOf.f k U N) (if logicB U N = true then noI U else -1) := by
  unfold spec_NoOf.f
  refine Ev.bind (spec_LogicOk.ev U N) ?_
  cases hl : logicB U N with
  | false => repeat (first | ((with_reducible refine Ev.ite_pos ?_ ?_); (first | assumption | (focus omega) | (focus (simp; done)))) | ((with_reducible refine Ev.ite_neg ?_ ?_); (first | assumption | (focus omega) | (focus (simp; done)))))
             exact Ev.now _
  | true =>
    have L := logicB_iff.1 hl
    have ho : orderB U = true := orderB_iff.2 L.toOrder
    repeat (first | ((with_reducible refine Ev.ite_pos ?_ ?_); (first | assumption | (focus omega) | (focus (simp; done)))) | ((with_reducible refine Ev.ite_neg ?_ ?_); (first | assumption | (focus omega) | (focus (simp; done)))))
    refine Ev.bind (spec_LeastOf.ev U) ?_
    rw [ho]
    exact Ev.now _
end Go.Proofs.Ythideghgdmokkaa.Print
end
section
namespace Go.Proofs.Ythideghgdmokkaa.Print
open Go.RowKit Go.Proofs.YthideghgdmokkaaW.PrintWords Go.Proofs.YthideghgdmokkaaW.PrintLast Go.Proofs.YthideghgdmokkaaW.PrintMore
set_option linter.unusedVariables false
set_option linter.unusedSimpArgs false
open Oml
theorem rd_in {U : List (List Int)} {N : List Int} (_L : Logic U N) {a : Int} (ha : In U a) : rd N a = notI N a := by
  obtain ⟨x, rfl⟩ : ∃ x : Nat, a = x := ⟨a.toNat, by have := ha.1; omega⟩
  rw [rd_nat]; rfl
section
variable {U : List (List Int)} {N : List Int} (L : Logic U N)
include L
theorem meet_in {a b : Int} (ha : In U a) (hb : In U b) : Ev (fun k => spec_l1Meet.f k U a b) (andI U a b) := by
  obtain ⟨x, rfl⟩ : ∃ x : Nat, a = x := ⟨a.toNat, by have := ha.1; omega⟩
  obtain ⟨y, rfl⟩ : ∃ y : Nat, b = y := ⟨b.toNat, by have := hb.1; omega⟩
  exact spec_l1Meet.ev L.toOrder (by have := ha.2; omega) (by have := hb.2; omega)
theorem join_in {a b : Int} (ha : In U a) (hb : In U b) : Ev (fun k => spec_l1Join.f k U a b) (orI U a b) := by
  obtain ⟨x, rfl⟩ : ∃ x : Nat, a = x := ⟨a.toNat, by have := ha.1; omega⟩
  obtain ⟨y, rfl⟩ : ∃ y : Nat, b = y := ⟨b.toNat, by have := hb.1; omega⟩
  exact spec_l1Join.ev L.toOrder (by have := ha.2; omega) (by have := hb.2; omega)
end
end Go.Proofs.Ythideghgdmokkaa.Print
end
section
namespace Go.Proofs.Ythideghgdmokkaa.Print
open Go.RowKit Go.Proofs.YthideghgdmokkaaW.PrintWords Go.Proofs.YthideghgdmokkaaW.PrintLast Go.Proofs.YthideghgdmokkaaW.PrintMore
set_option linter.unusedVariables false
set_option linter.unusedSimpArgs false
open Oml
def RdPost (w : World) (s : ByteArray) (o : Option (Fm × ByteArray)) (e : Ending) (w' : World) : Prop :=
  Below w.heap.size w w' ∧ match o with
    | none => e = .returned (.tuple #[.pointer none, .string s])
    | some (f, r) => ∃ p, e = .returned (.tuple #[.pointer (some ⟨p, 0, none⟩), .string r]) ∧ FAt w' p f
theorem size_al (W : World) (o : Obj) : (W.alloc o).heap.size = W.heap.size + 1 := by first | (simp; done) | (unfold World.alloc; simp; done) | rfl
theorem blk2 (W : World) (o q : Obj) : ((W.alloc o).alloc q).heap[W.heap.size + 1]? = some q ∧ ((W.alloc o).alloc q).heap[W.heap.size]? = some o := by
  have h := (MapKept.heap_alloc (W.alloc o) q).1
  rw [size_al] at h
  exact ⟨h, blk_alloc (MapKept.heap_alloc W o).1 q⟩
theorem str_nil {s : ByteArray} (h : s.size = 0) : s.toList = [] := by
  rw [ByteArray.toList_eq]
  have h2 : s.data.size = 0 := h
  exact List.eq_nil_of_length_eq_zero (by rw [Array.length_toList]; exact h2)
theorem str_ne {s : ByteArray} (h : 0 < s.size) : s.toList.isEmpty = false ∧ (s.toList == []) = false := by
  have h1 : s.toList ≠ [] := by
    rw [ByteArray.toList_eq]
    intro e
    have h2 : s.data.size = 0 := by rw [← Array.length_toList, e]; rfl
    have h3 : s.size = 0 := h2
    omega
  cases hl : s.toList with
  | nil => exact absurd hl h1
  | cons a l => exact ⟨rfl, rfl⟩
theorem read_empty (k : Nat) (s : ByteArray) (w : World) (h : s.size = 0) : Calls Try.prog 111 #[.string s] w (RdPost w s (rdF k s)) := by
  have hr : rdF k s = none := by cases k <;> simp [rdF, h]
  rw [hr]
  have h1 := str_nil h
  have h2 : (s.toList == []) = true := by rw [h1]; rfl
  have h3 : s.toList.isEmpty = true := by rw [h1]; rfl
  clear hr h
  go_enter Try.func111, Try.ntmps111
  go_wp2_with fail
  go_ret2
  exact ⟨Below.refl _ _, rfl⟩
def impl_readFormula.T9 : Bool × List (List Nat × List Nat) := (true, [([], []), ([0], [0]), ([1], [1]), ([2], [2]), ([], []), ([4], [4]), ([3, 0, 1, 2, 3], [3]), ([5, 6, 0, 1, 2, 3, 4, 5, 6], [5])])
def impl_readFormula.B9 : List Nat := [0, 1, 3, 7, 0, 16, 15, 127]
theorem impl_readFormula.tab9 : rtab .any (opsOf Try.f111 9) = impl_readFormula.T9 := by kernel_rfl
theorem impl_readFormula.bits9 : waitsOk impl_readFormula.T9.2 impl_readFormula.B9 = true := by kernel_rfl
def impl_readFormula.T22 : Bool × List (List Nat × List Nat) := (true, [([], []), ([0], [0]), ([], []), ([], []), ([2, 3], [2, 3]), ([1, 4], [1, 4]), ([5], [5]), ([], []), ([7], [7]), ([6, 0, 1, 2, 3, 4, 5, 6], [6]), ([8, 9, 0, 1, 2, 3, 4, 5, 6, 7, 8, 9], [8])])
def impl_readFormula.B22 : List Nat := [0, 1, 0, 0, 12, 31, 63, 0, 128, 127, 1023]
theorem impl_readFormula.tab22 : rtab .any (opsOf Try.f111 22) = impl_readFormula.T22 := by kernel_rfl
theorem impl_readFormula.bits22 : waitsOk impl_readFormula.T22.2 impl_readFormula.B22 = true := by kernel_rfl
theorem read_leaf (k : Nat) (s : ByteArray) (w : World) (hp : 0 < s.size) (c : Int) (hc : bt s 0 = c) (hl : isLeaf c) : Calls Try.prog 111 #[.string s] w (RdPost w s (rdF (k + 1) s)) := by
  have hr : rdF (k + 1) s = some (.leaf (bt s 0), s.extract 1 s.size) := by simp only [rdF]; rw [if_neg (by omega), if_pos (by rw [hc]; exact hl)]
  rw [hr]
  obtain ⟨n1, n2⟩ := str_ne hp
  have n3 : decide (0 < s.size) = true := decide_eq_true hp
  have n4 : decide (1 ≤ s.size) = true := decide_eq_true hp
  have n5 := eq_true hp
  have n7 : ∀ h : 0 < s.size, ((s[0]'h).toNat : Int) = bt s 0 := fun h => bt_at s 0 h
  have n6 : decide ((1 : Int) ≤ (s.size : Int)) = true := decide_eq_true (by omega); have n8 : ((1 : Int) ≤ (s.size : Int)) = True := eq_true (by omega)
  unfold isLeaf at hl
  clear hr
  rcases hl with hl | hl | hl | hl | hl
  all_goals
    subst hl
    have t97 : (bt s 0 == 97) = (bt s 0 == 97) := rfl
    have e97 : (bt s 0 == 97) = _ := congrArg (fun x : Int => x == 97) hc
    have e98 : (bt s 0 == 98) = _ := congrArg (fun x : Int => x == 98) hc
    have e99 : (bt s 0 == 99) = _ := congrArg (fun x : Int => x == 99) hc
    have e48 : (bt s 0 == 48) = _ := congrArg (fun x : Int => x == 48) hc
    have e49 : (bt s 0 == 49) = _ := congrArg (fun x : Int => x == 49) hc
    clear t97 hc
    go_enter Try.func111, Try.ntmps111
    go_wp2_with fail
    refine start_ (n := 8) (S := (fun _ => True)) (ds := []) #[false, false, false, false, false, false, false, false] (by kernel_rfl) rfl rfl True.intro (fun hHeld => ?_)
    refine with_tabW impl_readFormula.tab9 impl_readFormula.bits9 (fun HT_ HW_ => ?_)
    generalize hwd : w.drew = wd at hHeld ⊢
    have HB := Aside0.mk (show Below w.heap.size w wd from hwd ▸ below_drew1 (Below.refl _ _))
    clear hwd
    refine pure_ (i := 0) (N := some 21) (v := ?_) (a' := ?_) #[true, false, false, false, false, false, false, false] rfl rfl (any_of HT_.out (by kernel_rfl)) (fun _ _ _ h => h) (Or.inl ⟨by rfl, ?_⟩) ?_ ?_
    rotate_left
    · intro w'; go_simp; with_reducible rfl
    rotate_left
    · simp only [Act.put, List.setIfInBounds_toArray, List.set_cons_zero, List.set_cons_succ, i64_w, i32_w]; rfl
    refine pure_ (i := 1) (N := some 22) (v := ?_) (a' := ?_) #[true, true, false, false, false, false, false, false] rfl rfl (any_of HT_.out (by kernel_rfl)) (fun _ _ _ h => h) (Or.inl ⟨by rfl, ?_⟩) ?_ ?_
    rotate_left
    · intro w'; go_simp; with_reducible rfl
    rotate_left
    · simp only [Act.put, List.setIfInBounds_toArray, List.set_cons_zero, List.set_cons_succ, i64_w, i32_w]; rfl
    refine pure_ (i := 2) (N := some 23) (v := ?_) (a' := ?_) #[true, true, true, false, false, false, false, false] rfl rfl (any_of HT_.out (by kernel_rfl)) (fun _ _ _ h => h) (Or.inl ⟨by rfl, ?_⟩) ?_ ?_
    rotate_left
    · intro w'; go_simp; with_reducible rfl
    rotate_left
    · simp only [Act.put, List.setIfInBounds_toArray, List.set_cons_zero, List.set_cons_succ, i64_w, i32_w]; rfl
    refine pure_ (i := 4) (N := some 25) (v := ?_) (a' := ?_) #[true, true, true, false, true, false, false, false] rfl rfl (any_of HT_.out (by kernel_rfl)) (fun _ _ _ h => h) (Or.inl ⟨by rfl, ?_⟩) ?_ ?_
    rotate_left
    · intro w'; go_simp; with_reducible rfl
    rotate_left
    · simp only [Act.put, List.setIfInBounds_toArray, List.set_cons_zero, List.set_cons_succ, i64_w, i32_w]; rfl
    refine pure_ (i := 5) (N := some 26) (v := ?_) (a' := ?_) #[true, true, true, false, true, true, false, false] rfl rfl (any_of HT_.out (by kernel_rfl)) (fun _ _ _ h => h) (Or.inl ⟨by rfl, ?_⟩) ?_ ?_
    rotate_left
    · intro w'; go_simp; with_reducible rfl
    rotate_left
    · simp only [Act.put, List.setIfInBounds_toArray, List.set_cons_zero, List.set_cons_succ, i64_w, i32_w]; rfl
    refine one_ (i := 3) (N := some 24) #[true, true, true, true, true, true, false, false] rfl rfl (one_of HT_.out (by kernel_rfl)) (by decide) (fun K hK => ?_)
    refine box_step (cs := #[.int .u8 (bt s 0), .slice none 0 0]) (t := 113) (N := 24) (by rfl) (by rfl) ?hr1 ?_
    case hr1 => first | (go_simp; done) | (go_simp; rfl)
    intro p hp w1 hbox hb
    have HX := Aside0.mk hbox
    have HB1 := Aside0.mk (below_step HB.out hb)
    refine hK.out _ _ True.intro (fun hHeld1 => ?_)
    clear hK K hbox hb hp HB
    refine norm_ (a' := ?_) ?_ ?_
    rotate_left
    · show Act.put _ (some 24) _ = _
      simp only [Act.put, List.setIfInBounds_toArray, List.set_cons_zero, List.set_cons_succ, i64_w, i32_w]
      rfl
    refine pure_ (i := 6) (N := some 2) (v := ?_) (a' := ?_) #[true, true, true, true, true, true, true, false] rfl rfl (any_of HT_.out (by kernel_rfl)) (fun _ _ _ h => h) (Or.inl ⟨by rfl, ?_⟩) ?_ ?_
    rotate_left
    · intro w'; go_simp; with_reducible rfl
    rotate_left
    · simp only [Act.put, List.setIfInBounds_toArray, List.set_cons_zero, List.set_cons_succ, i64_w, i32_w]; rfl
    refine pure_ (i := 7) (N := some 3) (v := ?_) (a' := ?_) #[true, true, true, true, true, true, true, true] rfl rfl (any_of HT_.out (by kernel_rfl)) (fun _ _ _ h => h) (Or.inl ⟨by rfl, ?_⟩) ?_ ?_
    rotate_left
    · intro w'; go_simp; with_reducible rfl
    rotate_left
    · simp only [Act.put, List.setIfInBounds_toArray, List.set_cons_zero, List.set_cons_succ, i64_w, i32_w]; rfl
    refine done_ (done_of HT_.out (by kernel_rfl)) ?_
    go_wp2
    go_ret2
    exact ⟨by repeat (first | exact HB1.out | apply pw_below_drewN | apply below_drew1), p, rfl, HX.out⟩
theorem rd_neg {k : Nat} {s : ByteArray} (hp : 0 < s.size) (hc : bt s 0 = 33) : rdF (k + 1) s = match rdF k (s.extract 1 s.size) with | none => none | some (f, r) => some (.neg f, r) := by
  simp only [rdF]; rw [if_neg (by omega), if_neg (by rw [hc]; unfold isLeaf; omega), if_pos hc]
  all_goals (cases rdF k (s.extract 1 s.size) <;> rfl)
theorem rd_par {k : Nat} {s : ByteArray} (hp : 0 < s.size) (hc : bt s 0 = 40) : rdF (k + 1) s = match rdF k (s.extract 1 s.size) with
      | none => none
      | some (f, r) =>
        if r.size = 0 then none
        else if bt r 0 = 38 ∨ bt r 0 = 124 then
          match rdF k (r.extract 1 r.size) with
          | none => none
          | some (g, q) =>
            if q.size = 0 then none
            else if bt q 0 = 41 then some (.bin (bt r 0) f g, q.extract 1 q.size)
            else none
        else none := by
  simp only [rdF]; rw [if_neg (by omega), if_neg (by rw [hc]; unfold isLeaf; omega), if_neg (by rw [hc]; omega), if_pos hc]
  all_goals
    rcases rdF k (s.extract 1 s.size) with _ | ⟨f, r⟩
    · rfl
    simp only []
    split
    · rfl
    split
    · rcases rdF k (r.extract 1 r.size) with _ | ⟨g, q⟩ <;> rfl
    · rfl
set_option maxHeartbeats 4000000 in
set_option maxRecDepth 100000 in
theorem read_calls : ∀ (k : Nat) (s : ByteArray) (w : World), s.size ≤ k → Calls Try.prog 111 #[.string s] w (RdPost w s (rdF k s)) := by
  intro k
  induction k with
  | zero => intro s w h; exact read_empty 0 s w (by omega)
  | succ k ih =>
  intro s w hk
  rcases Nat.eq_zero_or_pos s.size with h0 | hp
  · exact read_empty _ s w h0
  by_cases hl : isLeaf (bt s 0)
  · exact read_leaf k s w hp _ rfl hl
  obtain ⟨n1, n2⟩ := str_ne hp
  have n3 : decide (0 < s.size) = true := decide_eq_true hp
  have n4 : decide (1 ≤ s.size) = true := decide_eq_true hp
  have n5 := eq_true hp
  have n7 : ∀ h : 0 < s.size, ((s[0]'h).toNat : Int) = bt s 0 := fun h => bt_at s 0 h
  have n6 : decide ((1 : Int) ≤ (s.size : Int)) = true := decide_eq_true (by omega); have n8 : ((1 : Int) ≤ (s.size : Int)) = True := eq_true (by omega)
  have HK := Aside0.mk (show (s.extract 1 s.size).size ≤ k by rw [ext_size]; omega)
  have IH := Aside0.mk ih
  by_cases hc : bt s 0 = 33
  · rw [rd_neg hp hc]
    cases hrd : rdF k (s.extract 1 s.size) with
    | none =>
      have HRD := Aside0.mk hrd
      have z97 : (bt s 0 == 97) = false := by rw [hc]; rfl
      have z98 : (bt s 0 == 98) = false := by rw [hc]; rfl
      have z99 : (bt s 0 == 99) = false := by rw [hc]; rfl
      have z48 : (bt s 0 == 48) = false := by rw [hc]; rfl
      have z49 : (bt s 0 == 49) = false := by rw [hc]; rfl
      have q33 : (bt s 0 == 33) = true := by rw [hc]; rfl
      clear ih hk hl hc hrd hp
      go_enter Try.func111, Try.ntmps111
      go_wp2_with (go_at_call 111; (with_reducible refine (IH.out (s.extract 1 s.size) _ HK.out).mono ?_); rintro e w2 ⟨hb, hm⟩; rw [HRD.out] at hm; obtain rfl := hm; have HB := Aside0.mk hb; clear hb)
      go_ret2
      exact ⟨HB.out, rfl⟩
    | some fr =>
      obtain ⟨f, r⟩ := fr
      have HRD := Aside0.mk hrd
      have z97 : (bt s 0 == 97) = false := by rw [hc]; rfl
      have z98 : (bt s 0 == 98) = false := by rw [hc]; rfl
      have z99 : (bt s 0 == 99) = false := by rw [hc]; rfl
      have z48 : (bt s 0 == 48) = false := by rw [hc]; rfl
      have z49 : (bt s 0 == 49) = false := by rw [hc]; rfl
      have q33 : (bt s 0 == 33) = true := by rw [hc]; rfl
      clear ih hk hl hc hrd hp
      go_enter Try.func111, Try.ntmps111
      go_wp2_with (go_at_call 111; (with_reducible refine (IH.out (s.extract 1 s.size) _ HK.out).mono ?_); rintro e w2 ⟨hb, hm⟩; rw [HRD.out] at hm; obtain ⟨p, rfl, hf⟩ := hm; have HB := Aside0.mk hb; have HF := Aside0.mk hf; clear hb hf)
      go_ret2
      have h2 := blk2 w2 (.cells #[.pointer (some ⟨p, 0, none⟩)] 84) (.cells #[.int .u8 33, .slice (some ⟨w2.heap.size, 0, none⟩) 1 1] 113)
      exact ⟨below_alloc (below_alloc HB.out _) _, w2.heap.size + 1, rfl, p, w2.heap.size, 1, h2.1, (blk_cell h2.2 0).trans rfl, FAt.below (below_alloc (below_alloc (Below.refl _ _) _) _) f p HF.out⟩
  by_cases hc2 : bt s 0 = 40
  · rw [rd_par hp hc2]
    cases hrd : rdF k (s.extract 1 s.size) with
    | none =>
      have HRD := Aside0.mk hrd
      have z97 : (bt s 0 == 97) = false := by rw [hc2]; rfl
      have z98 : (bt s 0 == 98) = false := by rw [hc2]; rfl
      have z99 : (bt s 0 == 99) = false := by rw [hc2]; rfl
      have z48 : (bt s 0 == 48) = false := by rw [hc2]; rfl
      have z49 : (bt s 0 == 49) = false := by rw [hc2]; rfl
      have z33 : (bt s 0 == 33) = false := by rw [hc2]; rfl
      have q40 : (bt s 0 == 40) = true := by rw [hc2]; rfl
      clear ih hk hl hc hc2 hrd hp
      go_enter Try.func111, Try.ntmps111
      go_wp2_with (go_at_call 111; (with_reducible refine (IH.out (s.extract 1 s.size) _ HK.out).mono ?_); rintro e w2 ⟨hb, hm⟩; rw [HRD.out] at hm; obtain rfl := hm; have HB := Aside0.mk hb; clear hb)
      go_ret2
      exact ⟨HB.out, rfl⟩
    | some fr =>
      obtain ⟨f, r⟩ := fr
      have HRD := Aside0.mk hrd
      have HRS := Aside0.mk (rdF_size _ _ _ _ hrd)
      have z97 : (bt s 0 == 97) = false := by rw [hc2]; rfl
      have z98 : (bt s 0 == 98) = false := by rw [hc2]; rfl
      have z99 : (bt s 0 == 99) = false := by rw [hc2]; rfl
      have z48 : (bt s 0 == 48) = false := by rw [hc2]; rfl
      have z49 : (bt s 0 == 49) = false := by rw [hc2]; rfl
      have z33 : (bt s 0 == 33) = false := by rw [hc2]; rfl
      have q40 : (bt s 0 == 40) = true := by rw [hc2]; rfl
      clear ih hk hl hc hc2 hrd
      simp only []
      by_cases hr0 : r.size = 0
      · rw [if_pos hr0]
        have m1 := str_nil hr0
        have m2 : (r.toList == []) = true := by rw [m1]; rfl
        have m3 : r.toList.isEmpty = true := by rw [m1]; rfl
        clear hr0 hp
        go_enter Try.func111, Try.ntmps111
        go_wp2_with (go_at_call 111; (with_reducible refine (IH.out (s.extract 1 s.size) _ HK.out).mono ?_); rintro e w2 ⟨hb, hm⟩; rw [HRD.out] at hm; obtain ⟨p, rfl, hf⟩ := hm; have HB := Aside0.mk hb; have HF := Aside0.mk hf; clear hb hf)
        go_ret2
        exact ⟨HB.out, rfl⟩
      rw [if_neg hr0]
      obtain ⟨m1, m2⟩ := str_ne (s := r) (by omega)
      have m3 : decide (0 < r.size) = true := decide_eq_true (by omega)
      have m4 : decide (1 ≤ r.size) = true := decide_eq_true (by omega)
      have m5 := eq_true (show 0 < r.size by omega)
      have m7 : ∀ h : 0 < r.size, ((r[0]'h).toNat : Int) = bt r 0 := fun h => bt_at r 0 h
      have m6 : decide ((1 : Int) ≤ (r.size : Int)) = true := decide_eq_true (by omega); have m8 : ((1 : Int) ≤ (r.size : Int)) = True := eq_true (by omega)
      have HK2 := Aside0.mk (show (r.extract 1 r.size).size ≤ k by rw [ext_size]; have := HRS.out; have := HK.out; rw [ext_size] at *; omega)
      clear hr0 hp
      by_cases ho : bt r 0 = 38 ∨ bt r 0 = 124
      · rw [if_pos ho]
        have HO := Aside0.mk ho
        have o1 : ((bt r 0 != 38) = false ∨ ((bt r 0 != 38) = true ∧ (bt r 0 != 124) = false)) := by
          rcases ho with e | e
          · left; rw [e]; rfl
          · right; rw [e]; exact ⟨rfl, rfl⟩
        clear ho
        have key : ∀ (o : Option (Fm × ByteArray)), rdF k (r.extract 1 r.size) = o → Calls Try.prog 111 #[.string s] w (RdPost w s (match o with
            | none => none
            | some (g, q) => if q.size = 0 then none else if bt q 0 = 41 then some (.bin (bt r 0) f g, q.extract 1 q.size) else none)) := by
          intro o ho
          have HO2 := Aside0.mk ho
          clear ho
          cases o with
          | none =>
            rcases o1 with o1 | ⟨o1, o2⟩
            all_goals
              go_enter Try.func111, Try.ntmps111
              go_wp2_with (first | (go_at_call 111; (with_reducible refine (IH.out (s.extract 1 s.size) _ HK.out).mono ?_); rintro e w2 ⟨hb, hm⟩; rw [HRD.out] at hm; obtain ⟨p, rfl, hf⟩ := hm; have HB := Aside0.mk hb; have HF := Aside0.mk hf; clear hb hf) | (go_at_call 111; (with_reducible refine (IH.out (r.extract 1 r.size) _ HK2.out).mono ?_); rintro e w3 ⟨hb, hm⟩; rw [HO2.out] at hm; obtain rfl := hm; have HB3 := Aside0.mk (below_step HB.out hb); clear hb))
              go_ret2
              exact ⟨HB3.out, rfl⟩
          | some gq =>
            obtain ⟨g, q2⟩ := gq
            simp only []
            by_cases hq0 : q2.size = 0
            · rw [if_pos hq0]
              have u1 := str_nil hq0
              have u2 : (q2.toList == []) = true := by rw [u1]; rfl
              have u3 : q2.toList.isEmpty = true := by rw [u1]; rfl
              clear hq0
              rcases o1 with o1 | ⟨o1, o2⟩
              all_goals
                go_enter Try.func111, Try.ntmps111
                go_wp2_with (first | (go_at_call 111; (with_reducible refine (IH.out (s.extract 1 s.size) _ HK.out).mono ?_); rintro e w2 ⟨hb, hm⟩; rw [HRD.out] at hm; obtain ⟨p, rfl, hf⟩ := hm; have HB := Aside0.mk hb; have HF := Aside0.mk hf; clear hb hf) | (go_at_call 111; (with_reducible refine (IH.out (r.extract 1 r.size) _ HK2.out).mono ?_); rintro e w3 ⟨hb, hm⟩; rw [HO2.out] at hm; obtain ⟨q, rfl, hf⟩ := hm; have HB3 := Aside0.mk (below_step HB.out hb); clear hb hf))
                go_ret2
                exact ⟨HB3.out, rfl⟩
            rw [if_neg hq0]
            obtain ⟨u1, u2⟩ := str_ne (s := q2) (by omega)
            have u3 : decide (0 < q2.size) = true := decide_eq_true (by omega)
            have u4 : decide (1 ≤ q2.size) = true := decide_eq_true (by omega)
            have u5 := eq_true (show 0 < q2.size by omega)
            have u7 : ∀ h : 0 < q2.size, ((q2[0]'h).toNat : Int) = bt q2 0 := fun h => bt_at q2 0 h
            have u6 : decide ((1 : Int) ≤ (q2.size : Int)) = true := decide_eq_true (by omega); have u8 : ((1 : Int) ≤ (q2.size : Int)) = True := eq_true (by omega)
            clear hq0
            by_cases hq : bt q2 0 = 41
            · rw [if_pos hq]
              have v1 : (bt q2 0 != 41) = false := by rw [hq]; rfl
              clear hq
              rcases o1 with o1 | ⟨o1, o2⟩
              all_goals
                go_enter Try.func111, Try.ntmps111
                go_wp2_with (first | (go_at_call 111; (with_reducible refine (IH.out (s.extract 1 s.size) _ HK.out).mono ?_); rintro e w2 ⟨hb, hm⟩; rw [HRD.out] at hm; obtain ⟨p, rfl, hf⟩ := hm; have HB := Aside0.mk hb; have HF := Aside0.mk hf; clear hb hf) | (go_at_call 111; (with_reducible refine (IH.out (r.extract 1 r.size) _ HK2.out).mono ?_); rintro e w3 ⟨hb, hm⟩; rw [HO2.out] at hm; obtain ⟨q, rfl, hf⟩ := hm; have HB3 := Aside0.mk (below_step HB.out hb); have HF3 := Aside0.mk (FAt.below hb f p HF.out); have HG3 := Aside0.mk hf; clear hb hf HB HF))
                refine start_ (n := 11) (S := (fun _ => True)) (ds := []) #[false, false, false, false, false, false, false, false, false, false, false] (by kernel_rfl) rfl rfl True.intro (fun hHeld => ?_)
                refine with_tabW impl_readFormula.tab22 impl_readFormula.bits22 (fun HT_ HW_ => ?_)
                generalize hwd : w3.drew = wd at hHeld ⊢
                have HB4 := Aside0.mk (show Below w.heap.size w wd from hwd ▸ below_drew1 HB3.out)
                have HFf := Aside0.mk (show FAt wd p f from hwd ▸ FAt.below (below_drew1 (Below.refl _ _)) f p HF3.out)
                have HFg := Aside0.mk (show FAt wd q g from hwd ▸ FAt.below (below_drew1 (Below.refl _ _)) g q HG3.out)
                clear hwd HB3 HF3 HG3
                refine pure_ (i := 0) (N := some 86) (v := ?_) (a' := ?_) #[true, false, false, false, false, false, false, false, false, false, false] rfl rfl (any_of HT_.out (by kernel_rfl)) (fun _ _ _ h => h) (Or.inl ⟨by rfl, ?_⟩) ?_ ?_
                rotate_left
                · intro w'; go_simp; with_reducible rfl
                rotate_left
                · simp only [Act.put, List.setIfInBounds_toArray, List.set_cons_zero, List.set_cons_succ, i64_w, i32_w]; rfl
                refine pure_ (i := 1) (N := some 87) (v := ?_) (a' := ?_) #[true, true, false, false, false, false, false, false, false, false, false] rfl rfl (any_of HT_.out (by kernel_rfl)) (fun _ _ _ h => h) (Or.inl ⟨by rfl, ?_⟩) ?_ ?_
                rotate_left
                · intro w'; go_simp; with_reducible rfl
                rotate_left
                · simp only [Act.put, List.setIfInBounds_toArray, List.set_cons_zero, List.set_cons_succ, i64_w, i32_w]; rfl
                refine pure_ (i := 2) (N := some 88) (v := ?_) (a' := ?_) #[true, true, true, false, false, false, false, false, false, false, false] rfl rfl (any_of HT_.out (by kernel_rfl)) (fun _ _ _ h => h) (Or.inl ⟨by rfl, ?_⟩) ?_ ?_
                rotate_left
                · intro w'; go_simp; with_reducible rfl
                rotate_left
                · simp only [Act.put, List.setIfInBounds_toArray, List.set_cons_zero, List.set_cons_succ, i64_w, i32_w]; rfl
                refine pure_ (i := 3) (N := some 89) (v := ?_) (a' := ?_) #[true, true, true, true, false, false, false, false, false, false, false] rfl rfl (any_of HT_.out (by kernel_rfl)) (fun _ _ _ h => h) (Or.inl ⟨by rfl, ?_⟩) ?_ ?_
                rotate_left
                · intro w'; go_simp; with_reducible rfl
                rotate_left
                · simp only [Act.put, List.setIfInBounds_toArray, List.set_cons_zero, List.set_cons_succ, i64_w, i32_w]; rfl
                refine pure_ (i := 7) (N := some 93) (v := ?_) (a' := ?_) #[true, true, true, true, false, false, false, true, false, false, false] rfl rfl (any_of HT_.out (by kernel_rfl)) (fun _ _ _ h => h) (Or.inl ⟨by rfl, ?_⟩) ?_ ?_
                rotate_left
                · intro w'; go_simp; with_reducible rfl
                rotate_left
                · simp only [Act.put, List.setIfInBounds_toArray, List.set_cons_zero, List.set_cons_succ, i64_w, i32_w]; rfl
                refine pure_ (i := 8) (N := some 94) (v := ?_) (a' := ?_) #[true, true, true, true, false, false, false, true, true, false, false] rfl rfl (any_of HT_.out (by kernel_rfl)) (fun _ _ _ h => h) (Or.inl ⟨by rfl, ?_⟩) ?_ ?_
                rotate_left
                · intro w'; go_simp; with_reducible rfl
                rotate_left
                · simp only [Act.put, List.setIfInBounds_toArray, List.set_cons_zero, List.set_cons_succ, i64_w, i32_w]; rfl
                refine one_ (i := 4) (N := some 90) #[true, true, true, true, true, false, false, true, true, false, false] rfl rfl (one_of HT_.out (by kernel_rfl)) (by decide) (fun K hK => ?_)
                refine event_step (w1 := World.alloc wd (.cells #[.pointer (some ⟨p, 0, none⟩), .pointer (some ⟨q, 0, none⟩)] 84)) (v := .slice (some ⟨wd.heap.size, 0, none⟩) 2 2) (by rfl) ?hr1 ?_
                case hr1 => first | (go_simp; done) | (go_simp; rfl)
                have HA := Aside0.mk (MapKept.heap_alloc wd (.cells #[.pointer (some ⟨p, 0, none⟩), .pointer (some ⟨q, 0, none⟩)] 84)).1
                have HB5 := Aside0.mk (below_alloc HB4.out (.cells #[.pointer (some ⟨p, 0, none⟩), .pointer (some ⟨q, 0, none⟩)] 84))
                have HFf5 := Aside0.mk (FAt.below (below_alloc (Below.refl _ _) (.cells #[.pointer (some ⟨p, 0, none⟩), .pointer (some ⟨q, 0, none⟩)] 84)) f p HFf.out)
                have HFg5 := Aside0.mk (FAt.below (below_alloc (Below.refl _ _) (.cells #[.pointer (some ⟨p, 0, none⟩), .pointer (some ⟨q, 0, none⟩)] 84)) g q HFg.out)
                obtain ⟨ag, hag⟩ : ∃ ag, ag = wd.heap.size := ⟨_, rfl⟩
                rw [← hag] at HA ⊢
                generalize World.alloc wd (.cells #[.pointer (some ⟨p, 0, none⟩), .pointer (some ⟨q, 0, none⟩)] 84) = w5 at HA HB5 HFf5 HFg5 ⊢
                clear hag HB4 HFf HFg
                refine hK.out _ _ True.intro (fun hHeld1 => ?_)
                clear hK K
                refine norm_ (a' := ?_) ?_ ?_
                rotate_left
                · show Act.put _ (some 90) _ = _
                  simp only [Act.put, List.setIfInBounds_toArray, List.set_cons_zero, List.set_cons_succ, i64_w, i32_w]
                  rfl
                refine pure_ (i := 5) (N := some 91) (v := ?_) (a' := ?_) #[true, true, true, true, true, true, false, true, true, false, false] rfl rfl (any_of HT_.out (by kernel_rfl)) (fun _ _ _ h => h) (Or.inl ⟨by rfl, ?_⟩) ?_ ?_
                rotate_left
                · intro w'; go_simp; with_reducible rfl
                rotate_left
                · simp only [Act.put, List.setIfInBounds_toArray, List.set_cons_zero, List.set_cons_succ, i64_w, i32_w]; rfl
                refine one_ (i := 6) (N := some 92) #[true, true, true, true, true, true, true, true, true, false, false] rfl rfl (one_of HT_.out (by kernel_rfl)) (by decide) (fun K hK => ?_)
                refine box_step (cs := #[.int .u8 (bt r 0), .slice (some ⟨ag, 0, none⟩) 2 2]) (t := 113) (N := 92) (by rfl) (by rfl) ?hr2 ?_
                case hr2 => first | (go_simp; done) | (go_simp; rfl)
                intro pp hp w6 hbox hb
                have HX := Aside0.mk hbox
                have HB6 := Aside0.mk (below_step HB5.out hb)
                have HA6 := Aside0.mk (blk_below HA.out hb)
                have HFf6 := Aside0.mk (FAt.below hb f p HFf5.out)
                have HFg6 := Aside0.mk (FAt.below hb g q HFg5.out)
                refine hK.out _ _ True.intro (fun hHeld2 => ?_)
                clear hK K hbox hb hp HB5 HA HFf5 HFg5
                refine norm_ (a' := ?_) ?_ ?_
                rotate_left
                · show Act.put _ (some 92) _ = _
                  simp only [Act.put, List.setIfInBounds_toArray, List.set_cons_zero, List.set_cons_succ, i64_w, i32_w]
                  rfl
                refine pure_ (i := 9) (N := some 2) (v := ?_) (a' := ?_) #[true, true, true, true, true, true, true, true, true, true, false] rfl rfl (any_of HT_.out (by kernel_rfl)) (fun _ _ _ h => h) (Or.inl ⟨by rfl, ?_⟩) ?_ ?_
                rotate_left
                · intro w'; go_simp; with_reducible rfl
                rotate_left
                · simp only [Act.put, List.setIfInBounds_toArray, List.set_cons_zero, List.set_cons_succ, i64_w, i32_w]; rfl
                refine pure_ (i := 10) (N := some 3) (v := ?_) (a' := ?_) #[true, true, true, true, true, true, true, true, true, true, true] rfl rfl (any_of HT_.out (by kernel_rfl)) (fun _ _ _ h => h) (Or.inl ⟨by rfl, ?_⟩) ?_ ?_
                rotate_left
                · intro w'; go_simp; with_reducible rfl
                rotate_left
                · simp only [Act.put, List.setIfInBounds_toArray, List.set_cons_zero, List.set_cons_succ, i64_w, i32_w]; rfl
                refine done_ (done_of HT_.out (by kernel_rfl)) ?_
                go_wp2
                go_ret2
                exact ⟨by repeat (first | exact HB6.out | apply pw_below_drewN | apply below_drew1), pp, rfl, p, q, ag, 2, HX.out, (blk_cell HA6.out 0).trans rfl, (blk_cell HA6.out 1).trans rfl, HFf6.out, HFg6.out⟩
            · rw [if_neg hq]
              have v1 : (bt q2 0 != 41) = true := bne_iff_ne.2 hq
              clear hq
              rcases o1 with o1 | ⟨o1, o2⟩
              all_goals
                go_enter Try.func111, Try.ntmps111
                go_wp2_with (first | (go_at_call 111; (with_reducible refine (IH.out (s.extract 1 s.size) _ HK.out).mono ?_); rintro e w2 ⟨hb, hm⟩; rw [HRD.out] at hm; obtain ⟨p, rfl, hf⟩ := hm; have HB := Aside0.mk hb; have HF := Aside0.mk hf; clear hb hf) | (go_at_call 111; (with_reducible refine (IH.out (r.extract 1 r.size) _ HK2.out).mono ?_); rintro e w3 ⟨hb, hm⟩; rw [HO2.out] at hm; obtain ⟨q, rfl, hf⟩ := hm; have HB3 := Aside0.mk (below_step HB.out hb); clear hb hf))
                go_ret2
                exact ⟨HB3.out, rfl⟩
        exact key _ rfl
      · rw [if_neg ho]
        have o1 : (bt r 0 != 38) = true := bne_iff_ne.2 (fun e => ho (.inl e))
        have o2 : (bt r 0 != 124) = true := bne_iff_ne.2 (fun e => ho (.inr e))
        clear ho
        go_enter Try.func111, Try.ntmps111
        go_wp2_with (go_at_call 111; (with_reducible refine (IH.out (s.extract 1 s.size) _ HK.out).mono ?_); rintro e w2 ⟨hb, hm⟩; rw [HRD.out] at hm; obtain ⟨p, rfl, hf⟩ := hm; have HB := Aside0.mk hb; have HF := Aside0.mk hf; clear hb hf)
        go_ret2
        exact ⟨HB.out, rfl⟩
  · have hr : rdF (k + 1) s = none := by simp only [rdF]; rw [if_neg (by omega), if_neg hl, if_neg hc, if_neg hc2]
    rw [hr]
    unfold isLeaf at hl
    have z97 : (bt s 0 == 97) = false := beq_eq_false_iff_ne.2 (fun e => by simp [e] at hl)
    have z98 : (bt s 0 == 98) = false := beq_eq_false_iff_ne.2 (fun e => by simp [e] at hl)
    have z99 : (bt s 0 == 99) = false := beq_eq_false_iff_ne.2 (fun e => by simp [e] at hl)
    have z48 : (bt s 0 == 48) = false := beq_eq_false_iff_ne.2 (fun e => by simp [e] at hl)
    have z49 : (bt s 0 == 49) = false := beq_eq_false_iff_ne.2 (fun e => by simp [e] at hl)
    have z33 : (bt s 0 == 33) = false := beq_eq_false_iff_ne.2 (fun e => by simp [e] at hc)
    have z40 : (bt s 0 == 40) = false := beq_eq_false_iff_ne.2 (fun e => by simp [e] at hc2)
    clear ih hk hl hc hc2 hr hp
    go_enter Try.func111, Try.ntmps111
    go_wp2_with fail
    go_ret2
    exact ⟨Below.refl _ _, rfl⟩
theorem formulaOf_calls (s : ByteArray) (w : World) : Calls Try.prog 73 #[.string s] w fun e w' => Below w.heap.size w w' ∧ match fmOf s with
    | none => e = .returned (.pointer none)
    | some f => ∃ p, e = .returned (.pointer (some ⟨p, 0, none⟩)) ∧ FAt w' p f := by
  unfold fmOf
  by_cases h : 60 < s.size
  · have d1 : decide ((60 : Int) < (s.size : Int)) = true := decide_eq_true (by omega)
    have d2 : decide (60 < s.size) = true := decide_eq_true h
    rw [if_pos h]
    clear h
    go_enter Try.func73, Try.ntmps73
    go_wp2_with fail
    go_ret
    exact ⟨Below.refl _ _, rfl⟩
  · have d1 : decide ((60 : Int) < (s.size : Int)) = false := decide_eq_false (by omega)
    have d2 : decide (60 < s.size) = false := decide_eq_false h
    rw [if_neg h]
    have HR := Aside0.mk (read_calls s.size s w (Nat.le_refl _))
    clear h
    generalize rdF s.size s = o at HR ⊢
    cases o with
    | none =>
      have key : ∀ x : ByteArray, x = s → Calls Try.prog 73 #[.string s] w fun e w' => Below w.heap.size w w' ∧ e = .returned (.pointer none) := by
        intro x hx
        by_cases h0 : s.size = 0
        · have m1 := str_nil h0
          have m2 : (s.toList != []) = false := by rw [m1]; rfl
          have m3 : s.toList.isEmpty = true := by rw [m1]; rfl
          clear h0
          go_enter Try.func73, Try.ntmps73
          go_wp2_with (go_at_call 111; (with_reducible refine HR.out.mono ?_); rintro e w2 ⟨hb, rfl⟩; have HB := Aside0.mk hb; clear hb)
          go_ret
          exact ⟨HB.out, rfl⟩
        · obtain ⟨m1, m2⟩ := str_ne (s := s) (by omega)
          have m3 : (s.toList != []) = true := by rw [bne, m2]; rfl
          clear h0
          go_enter Try.func73, Try.ntmps73
          go_wp2_with (go_at_call 111; (with_reducible refine HR.out.mono ?_); rintro e w2 ⟨hb, rfl⟩; have HB := Aside0.mk hb; clear hb)
          go_ret
          exact ⟨HB.out, rfl⟩
      exact key _ rfl
    | some fr =>
      obtain ⟨f, r⟩ := fr
      simp only []
      by_cases h0 : r.size = 0
      · rw [if_pos h0]
        have m1 := str_nil h0
        have m2 : (r.toList != []) = false := by rw [m1]; rfl
        have m3 : r.toList.isEmpty = true := by rw [m1]; rfl
        clear h0
        go_enter Try.func73, Try.ntmps73
        go_wp2_with (go_at_call 111; (with_reducible refine HR.out.mono ?_); rintro e w2 ⟨hb, p, rfl, hf⟩; have HB := Aside0.mk hb; have HF := Aside0.mk hf; clear hb hf)
        go_ret
        exact ⟨HB.out, p, rfl, HF.out⟩
      · rw [if_neg h0]
        obtain ⟨m1, m2⟩ := str_ne (s := r) (by omega)
        have m3 : (r.toList != []) = true := by rw [bne, m2]; rfl
        clear h0
        go_enter Try.func73, Try.ntmps73
        go_wp2_with (go_at_call 111; (with_reducible refine HR.out.mono ?_); rintro e w2 ⟨hb, p, rfl, hf⟩; have HB := Aside0.mk hb; clear hb hf)
        go_ret
        exact ⟨HB.out, rfl⟩
end Go.Proofs.Ythideghgdmokkaa.Print
end
section
namespace Go.Proofs.Ythideghgdmokkaa.Print
open Go.RowKit Go.Proofs.YthideghgdmokkaaW.PrintWords Go.Proofs.YthideghgdmokkaaW.PrintLast Go.Proofs.YthideghgdmokkaaW.PrintMore
set_option linter.unusedVariables false
set_option linter.unusedSimpArgs false
open Oml
def Fm.ok : Fm → Prop
  | .leaf c => isLeaf c
  | .neg f => Fm.ok f
  | .bin c f g => (c = 38 ∨ c = 124) ∧ Fm.ok f ∧ Fm.ok g
theorem rdF_ok : ∀ (k : Nat) (s : ByteArray) (f : Fm) (r : ByteArray), rdF k s = some (f, r) → f.ok
  | 0, _, _, _, h => by simp [rdF] at h
  | k + 1, s, f, r, h => by
    have ih := rdF_ok k
    simp only [rdF] at h
    split at h
    · cases h
    · split at h
      · rename_i hl
        cases h; exact hl
      · split at h
        · split at h
          · cases h
          · rename_i f1 r1 h1
            cases h
            exact (show f1.ok from ih _ _ _ h1)
        · split at h
          · split at h
            · cases h
            · rename_i f1 r1 h1
              split at h
              · cases h
              · split at h
                · rename_i ho
                  split at h
                  · cases h
                  · rename_i g q h3
                    split at h
                    · cases h
                    · split at h
                      · cases h; exact ⟨ho, ih _ _ _ h1, ih _ _ _ h3⟩
                      · cases h
                · cases h
          · cases h
theorem fmOf_ok {s : ByteArray} {f : Fm} (h : fmOf s = some f) : f.ok := by
  unfold fmOf at h
  split at h
  · cases h
  · split at h
    · cases h
    · rename_i g r h1
      split at h
      · cases h; exact rdF_ok _ _ _ _ h1
      · cases h
def valF (U : List (List Int)) (N : List Int) (a b c : Int) : Fm → Int
  | .leaf x => if x = 97 then a else if x = 98 then b else if x = 99 then c else if x = 48 then noI U else yesI U N
  | .neg f => notI N (valF U N a b c f)
  | .bin x f g => if x = 38 then andI U (valF U N a b c f) (valF U N a b c g) else orI U (valF U N a b c f) (valF U N a b c g)
theorem in_val {U : List (List Int)} {N : List Int} (L : Logic U N) {a b c : Int} (ia : In U a) (ib : In U b) (ic : In U c) : ∀ f : Fm, In U (valF U N a b c f)
  | .leaf x => by
    unfold valF
    split
    · exact ia
    split
    · exact ib
    split
    · exact ic
    split
    · exact L.in_no
    · exact L.in_yes
  | .neg f => L.in_not (in_val L ia ib ic f)
  | .bin x f g => by
    unfold valF
    split
    · exact L.in_and (in_val L ia ib ic f) (in_val L ia ib ic g)
    · exact L.in_or (in_val L ia ib ic f) (in_val L ia ib ic g)
def alg_value.T10 : Bool × List (List Nat × List Nat) := (true, [([], []), ([], []), ([1], [1]), ([2], [2]), ([3], [3]), ([4], [4]), ([5], [5]), ([], []), ([0, 6, 7], [0, 6, 7]), ([8, 8, 0, 1, 2, 3, 4, 5, 6, 7, 8], [8])])
def alg_value.B10 : List Nat := [0, 0, 2, 6, 14, 30, 62, 0, 255, 511]
theorem alg_value.tab10 : rtab .any (opsOf Try.f74 10) = alg_value.T10 := by kernel_rfl
theorem alg_value.bits10 : waitsOk alg_value.T10.2 alg_value.B10 = true := by kernel_rfl
def alg_value.T13 : Bool × List (List Nat × List Nat) := (true, [([], []), ([], []), ([1], [1]), ([2], [2]), ([3], [3]), ([4], [4]), ([5], [5]), ([], []), ([0, 6, 7], [0, 6, 7]), ([8, 8, 0, 1, 2, 3, 4, 5, 6, 7, 8], [8])])
def alg_value.B13 : List Nat := [0, 0, 2, 6, 14, 30, 62, 0, 255, 511]
theorem alg_value.tab13 : rtab .any (opsOf Try.f74 13) = alg_value.T13 := by kernel_rfl
theorem alg_value.bits13 : waitsOk alg_value.T13.2 alg_value.B13 = true := by kernel_rfl
set_option maxHeartbeats 4000000 in
set_option maxRecDepth 100000 in
theorem value_leaf (g : Nat) (U : List (List Int)) (N : List Int) (v : Adr) (L : Logic U N) (a b c : Int) (x : Int) (hx : isLeaf x) (pf : Nat) (w : World) (hV : View w g U N v) (hP : w.heap[pf]? = some (.cells #[.int .u8 x, .slice none 0 0] 113 (0, 0))) :
    Calls Try.prog 74 #[.pointer (some ⟨g, 0, none⟩), .pointer (some ⟨pf, 0, none⟩), .agg #[.int .i64 a, .int .i64 b, .int .i64 c]] w fun e w' => e = .returned (.int .i64 (valF U N a b c (.leaf x))) ∧ Below w.heap.size w w' := by
  have hu70 := Try.underlying81
  have hu87 := Try.underlying87
  have huf := Try.underlying113
  have HV := Aside0.mk hV
  have HP := Aside0.mk hP
  clear hV hP L
  unfold isLeaf at hx
  rcases hx with rfl | rfl | rfl | rfl | rfl
  · go_enter Try.func74, Try.ntmps74
    go_wp2_with ((with_reducible refine gate_dst (N := 5) rfl ?_); refine box_event ?hg (N := 5) ?hd (cs := #[.int .i64 a, .int .i64 b, .int .i64 c]) (t := 87) ?hr ?_; (case hd => rfl); (case hg => rfl); (case hr => first | (go_simp; done) | (go_simp; rfl)); intro gb hg_ w1 hbox hb; have HX1 := Aside0.mk hbox; have HB1 := Aside0.mk hb; have HV1 := Aside0.mk (View.below HV.out hb); have HP1 := Aside0.mk (blk_below HP.out hb); have s1_ : w1.cell? ⟨pf, 0, none⟩ = some (.int .u8 97) := (blk_cell HP1.out 0).trans rfl; have x_ : w1.cell? ⟨gb, 0, none⟩ = some (.int .i64 a) := (blk_cell hbox 0).trans rfl; clear hbox hb hg_)
    go_ret
    exact ⟨rfl, HB1.out⟩
  · go_enter Try.func74, Try.ntmps74
    go_wp2_with ((with_reducible refine gate_dst (N := 5) rfl ?_); refine box_event ?hg (N := 5) ?hd (cs := #[.int .i64 a, .int .i64 b, .int .i64 c]) (t := 87) ?hr ?_; (case hd => rfl); (case hg => rfl); (case hr => first | (go_simp; done) | (go_simp; rfl)); intro gb hg_ w1 hbox hb; have HX1 := Aside0.mk hbox; have HB1 := Aside0.mk hb; have HV1 := Aside0.mk (View.below HV.out hb); have HP1 := Aside0.mk (blk_below HP.out hb); have s1_ : w1.cell? ⟨pf, 0, none⟩ = some (.int .u8 98) := (blk_cell HP1.out 0).trans rfl; have x_ : w1.cell? ⟨gb, 1, none⟩ = some (.int .i64 b) := (blk_cell hbox 1).trans rfl; clear hbox hb hg_)
    go_ret
    exact ⟨rfl, HB1.out⟩
  · go_enter Try.func74, Try.ntmps74
    go_wp2_with ((with_reducible refine gate_dst (N := 5) rfl ?_); refine box_event ?hg (N := 5) ?hd (cs := #[.int .i64 a, .int .i64 b, .int .i64 c]) (t := 87) ?hr ?_; (case hd => rfl); (case hg => rfl); (case hr => first | (go_simp; done) | (go_simp; rfl)); intro gb hg_ w1 hbox hb; have HX1 := Aside0.mk hbox; have HB1 := Aside0.mk hb; have HV1 := Aside0.mk (View.below HV.out hb); have HP1 := Aside0.mk (blk_below HP.out hb); have s1_ : w1.cell? ⟨pf, 0, none⟩ = some (.int .u8 99) := (blk_cell HP1.out 0).trans rfl; have x_ : w1.cell? ⟨gb, 2, none⟩ = some (.int .i64 c) := (blk_cell hbox 2).trans rfl; clear hbox hb hg_)
    go_ret
    exact ⟨rfl, HB1.out⟩
  · go_enter Try.func74, Try.ntmps74
    go_wp2_with ((with_reducible refine gate_dst (N := 5) rfl ?_); refine box_event ?hg (N := 5) ?hd (cs := #[.int .i64 a, .int .i64 b, .int .i64 c]) (t := 87) ?hr ?_; (case hd => rfl); (case hg => rfl); (case hr => first | (go_simp; done) | (go_simp; rfl)); intro gb hg_ w1 hbox hb; have HX1 := Aside0.mk hbox; have HB1 := Aside0.mk hb; have HV1 := Aside0.mk (View.below HV.out hb); have HP1 := Aside0.mk (blk_below HP.out hb); have s1_ : w1.cell? ⟨pf, 0, none⟩ = some (.int .u8 48) := (blk_cell HP1.out 0).trans rfl; have x_ := HV1.out.f4; clear hbox hb hg_)
    go_ret
    exact ⟨rfl, HB1.out⟩
  · go_enter Try.func74, Try.ntmps74
    go_wp2_with ((with_reducible refine gate_dst (N := 5) rfl ?_); refine box_event ?hg (N := 5) ?hd (cs := #[.int .i64 a, .int .i64 b, .int .i64 c]) (t := 87) ?hr ?_; (case hd => rfl); (case hg => rfl); (case hr => first | (go_simp; done) | (go_simp; rfl)); intro gb hg_ w1 hbox hb; have HX1 := Aside0.mk hbox; have HB1 := Aside0.mk hb; have HV1 := Aside0.mk (View.below HV.out hb); have HP1 := Aside0.mk (blk_below HP.out hb); have s1_ : w1.cell? ⟨pf, 0, none⟩ = some (.int .u8 49) := (blk_cell HP1.out 0).trans rfl; have x_ := HV1.out.f5; clear hbox hb hg_)
    go_ret
    exact ⟨rfl, HB1.out⟩
set_option maxHeartbeats 4000000 in
set_option maxRecDepth 100000 in
theorem value_neg (g : Nat) (U : List (List Int)) (N : List Int) (v : Adr) (L : Logic U N) (a b c : Int) (f : Fm) (x : Int) (hx : valF U N a b c f = x) (ix : In U x) (ih : ∀ (pf : Nat) (w : World), View w g U N v → FAt w pf f → f.ok → Calls Try.prog 74 #[.pointer (some ⟨g, 0, none⟩), .pointer (some ⟨pf, 0, none⟩), .agg #[.int .i64 a, .int .i64 b, .int .i64 c]] w fun e w' => e = .returned (.int .i64 x) ∧ Below w.heap.size w w') (hok : f.ok) (pf : Nat) (w : World) (hV : View w g U N v) (hF : FAt w pf (.neg f)) :
    Calls Try.prog 74 #[.pointer (some ⟨g, 0, none⟩), .pointer (some ⟨pf, 0, none⟩), .agg #[.int .i64 a, .int .i64 b, .int .i64 c]] w fun e w' => e = .returned (.int .i64 (valF U N a b c (.neg f))) ∧ Below w.heap.size w w' := by
  have hu70 := Try.underlying81
  have hu87 := Try.underlying87
  have huf := Try.underlying113
  obtain ⟨q, ad, cp, hP, hC0, hFq⟩ := hF
  rw [show valF U N a b c (.neg f) = notI N x by rw [← hx]; rfl]
  have HV := Aside0.mk hV
  have HP := Aside0.mk hP
  have HC0 := Aside0.mk hC0
  have HFq := Aside0.mk hFq
  have HLg := Aside0.mk L
  have Ix := Aside0.mk ix
  have IH := Aside0.mk ih
  have HOK := Aside0.mk hok
  clear hV hP hC0 hFq L ix ih hok hx
  go_enter Try.func74, Try.ntmps74
  go_wp2_with ((with_reducible refine gate_dst (N := 5) rfl ?_); refine box_event ?hg (N := 5) ?hd (cs := #[.int .i64 a, .int .i64 b, .int .i64 c]) (t := 87) ?hr ?_; (case hd => rfl); (case hg => rfl); (case hr => first | (go_simp; done) | (go_simp; rfl)); intro gb hg_ w1 hbox hb; have HX1 := Aside0.mk hbox; have HB1 := Aside0.mk hb; have HV1 := Aside0.mk (View.below HV.out hb); have HP1 := Aside0.mk (blk_below HP.out hb); have s1_ : w1.cell? ⟨pf, 0, none⟩ = some (.int .u8 33) := (blk_cell HP1.out 0).trans rfl; have HC1_0 := Aside0.mk (cell_up HC0.out hb rfl); have HF1q := Aside0.mk (FAt.below hb _ _ HFq.out); clear hbox hb hg_)
  have HV2 := Aside0.mk (View.below HV1.out (below_drew1 (Below.refl w1.heap.size w1)))
  have HP2 := Aside0.mk (blk_below HP1.out (below_drew1 (Below.refl w1.heap.size w1)))
  have HX2 := Aside0.mk (blk_below HX1.out (below_drew1 (Below.refl w1.heap.size w1)))
  have HC2_0 := Aside0.mk (cell_up HC1_0.out (below_drew1 (Below.refl w1.heap.size w1)) rfl)
  have HF2q := Aside0.mk (FAt.below (below_drew1 (Below.refl w1.heap.size w1)) _ _ HF1q.out)
  have HB2 := Aside0.mk (below_drew1 HB1.out)
  refine start_ (n := 10) (S := (fun w' => w'.cell? ⟨pf, 1, none⟩ = some (.slice (some ⟨ad, 0, none⟩) 1 cp) ∧ w'.cell? ⟨ad, 0, none⟩ = some (.pointer (some ⟨q, 0, none⟩)) ∧ w'.cell? ⟨gb, 0, none⟩ = some (.int .i64 a) ∧ w'.cell? ⟨gb, 1, none⟩ = some (.int .i64 b) ∧ w'.cell? ⟨gb, 2, none⟩ = some (.int .i64 c))) (ds := []) #[false, false, false, false, false, false, false, false, false, false] (by kernel_rfl) rfl rfl ⟨(blk_cell HP2.out 1).trans rfl, HC2_0.out, (blk_cell HX2.out 0).trans rfl, (blk_cell HX2.out 1).trans rfl, (blk_cell HX2.out 2).trans rfl⟩ (fun hHeld => ?_)
  refine with_tabW alg_value.tab10 alg_value.bits10 (fun HT_ HW_ => ?_)
  generalize w1.drew = w2 at hHeld HV2 HP2 HX2 HB2 HC2_0 HF2q ⊢
  refine pure_ (i := 0) (N := some 36) (v := ?_) (a' := ?_) #[true, false, false, false, false, false, false, false, false, false] rfl rfl (any_of HT_.out (by kernel_rfl)) (fun _ _ _ h => h) (Or.inl ⟨by rfl, ?_⟩) ?_ ?_
  rotate_left
  · intro w'; go_simp; with_reducible rfl
  rotate_left
  · simp only [Act.put, List.setIfInBounds_toArray, List.set_cons_zero, List.set_cons_succ, i64_w, i32_w]; rfl
  refine pure_ (i := 1) (N := some 37) (v := ?_) (a' := ?_) #[true, true, false, false, false, false, false, false, false, false] rfl rfl (any_of HT_.out (by kernel_rfl)) (fun _ _ _ h => h) (Or.inl ⟨by rfl, ?_⟩) ?_ ?_
  rotate_left
  · intro w'; go_simp; with_reducible rfl
  rotate_left
  · simp only [Act.put, List.setIfInBounds_toArray, List.set_cons_zero, List.set_cons_succ, i64_w, i32_w]; rfl
  refine pure_ (i := 2) (N := some 38) (v := ?_) (a' := ?_) #[true, true, true, false, false, false, false, false, false, false] rfl rfl (any_of HT_.out (by kernel_rfl)) (fun _ _ _ h => h) (Or.inl ⟨by rfl, ?_⟩) ?_ ?_
  rotate_left
  · intro w'; go_simp; with_reducible rfl
  rotate_left
  · simp only [Act.put, List.setIfInBounds_toArray, List.set_cons_zero, List.set_cons_succ, i64_w, i32_w]; rfl
  refine pure_ (i := 3) (N := some 39) (v := ?_) (a' := ?_) #[true, true, true, true, false, false, false, false, false, false] rfl rfl (any_of HT_.out (by kernel_rfl)) (fun _ _ _ h => h) (Or.inl ⟨by rfl, ?_⟩) ?_ ?_
  rotate_left
  · intro w'; go_simp; with_reducible rfl
  rotate_left
  · simp only [Act.put, List.setIfInBounds_toArray, List.set_cons_zero, List.set_cons_succ, i64_w, i32_w]; rfl
  refine take_ (i := 4) (N := some 40) (v := ?_) (a' := ?_) #[true, true, true, true, true, false, false, false, false, false] rfl rfl (take_ofW HT_.out HW_.out (by kernel_rfl)) (fun _ _ _ h => h) (Or.inl ⟨by rfl, ?_⟩) hHeld ?_ ?_
  rotate_left
  · rintro w' ⟨t0, t1, t2, t3, t4⟩; go_simp; with_reducible rfl
  rotate_left
  · simp only [Act.put, List.setIfInBounds_toArray, List.set_cons_zero, List.set_cons_succ, i64_w, i32_w]; rfl
  refine pure_ (i := 5) (N := some 41) (v := ?_) (a' := ?_) #[true, true, true, true, true, true, false, false, false, false] rfl rfl (any_of HT_.out (by kernel_rfl)) (fun _ _ _ h => h) (Or.inl ⟨by rfl, ?_⟩) ?_ ?_
  rotate_left
  · intro w'; go_simp; with_reducible rfl
  rotate_left
  · simp only [Act.put, List.setIfInBounds_toArray, List.set_cons_zero, List.set_cons_succ, i64_w, i32_w]; rfl
  refine take_ (i := 6) (N := some 42) (v := ?_) (a' := ?_) #[true, true, true, true, true, true, true, false, false, false] rfl rfl (take_ofW HT_.out HW_.out (by kernel_rfl)) (fun _ _ _ h => h) (Or.inl ⟨by rfl, ?_⟩) hHeld ?_ ?_
  rotate_left
  · rintro w' ⟨t0, t1, t2, t3, t4⟩; go_simp; with_reducible rfl
  rotate_left
  · simp only [Act.put, List.setIfInBounds_toArray, List.set_cons_zero, List.set_cons_succ, i64_w, i32_w]; rfl
  refine take_ (i := 7) (N := some 43) (v := ?_) (a' := ?_) #[true, true, true, true, true, true, true, true, false, false] rfl rfl (take_ofW HT_.out HW_.out (by kernel_rfl)) (fun _ _ _ h => h) (Or.inl ⟨by rfl, ?_⟩) hHeld ?_ ?_
  rotate_left
  · rintro w' ⟨t0, t1, t2, t3, t4⟩; go_simp; with_reducible rfl
  rotate_left
  · simp only [Act.put, List.setIfInBounds_toArray, List.set_cons_zero, List.set_cons_succ, i64_w, i32_w]; rfl
  refine one_ (i := 8) (N := some 44) #[true, true, true, true, true, true, true, true, true, false] rfl rfl (one_of HT_.out (by kernel_rfl)) (by decide) (fun K hK => ?_)
  refine goes_ Try.func74 (by kernel_rfl) rfl #[.pointer (some ⟨g, 0, none⟩), .pointer (some ⟨q, 0, none⟩), .agg #[.int .i64 a, .int .i64 b, .int .i64 c]] (by rfl) rfl rfl (by (try simp only [List.map_toArray, List.map_cons, List.map_nil]); first | done | rfl) ?_
  refine (IH.out q w2 HV2.out HF2q.out HOK.out).mono ?_
  rintro e w3 ⟨rfl, hb⟩
  refine ⟨_, rfl, ?_⟩
  have HB3 := Aside0.mk (below_step HB2.out hb)
  have HV3 := Aside0.mk (View.below HV2.out hb)
  have HP3 := Aside0.mk (blk_below HP2.out hb)
  have HX3 := Aside0.mk (blk_below HX2.out hb)
  have HC3_0 := Aside0.mk (cell_up HC2_0.out hb rfl)
  have HF3q := Aside0.mk (FAt.below hb _ _ HF2q.out)
  refine hK.out _ _ ⟨(blk_cell HP3.out 1).trans rfl, HC3_0.out, (blk_cell HX3.out 0).trans rfl, (blk_cell HX3.out 1).trans rfl, (blk_cell HX3.out 2).trans rfl⟩ (fun hHeld3 => ?_)
  clear hK K hb
  refine norm_ (a' := ?_) ?_ ?_
  rotate_left
  · show Act.put _ (some 44) _ = _
    simp only [Act.put, List.setIfInBounds_toArray, List.set_cons_zero, List.set_cons_succ, i64_w, i32_w]
    rfl
  refine pure_ (i := 9) (N := some 7) (v := ?_) (a' := ?_) #[true, true, true, true, true, true, true, true, true, true] rfl rfl (any_of HT_.out (by kernel_rfl)) (fun _ _ _ h => h) (Or.inl ⟨by rfl, ?_⟩) ?_ ?_
  rotate_left
  · intro w'; go_simp; with_reducible rfl
  rotate_left
  · simp only [Act.put, List.setIfInBounds_toArray, List.set_cons_zero, List.set_cons_succ, i64_w, i32_w]; rfl
  refine done_ (done_of HT_.out (by kernel_rfl)) ?_
  clear hHeld hHeld3 s1_
  have s3_ : w3.cell? ⟨pf, 0, none⟩ = some (.int .u8 33) := (blk_cell HP3.out 0).trans rfl
  have b0_ := eq_true Ix.out.1; have c0_ := eq_true Ix.out.2
  have hf3_ := HV3.out.f3
  have n2_ := HV3.out.n x Ix.out
  go_wp2
  go_ret
  exact ⟨rfl, HB3.out⟩
set_option maxHeartbeats 4000000 in
set_option maxRecDepth 100000 in
theorem value_bin (g : Nat) (U : List (List Int)) (N : List Int) (v : Adr) (L : Logic U N) (a b c : Int) (z : Int) (hz : z = 38 ∨ z = 124) (f f' : Fm) (x y : Int) (hx : valF U N a b c f = x) (hy : valF U N a b c f' = y) (ix : In U x) (iy : In U y) (ih : ∀ (pf : Nat) (w : World), View w g U N v → FAt w pf f → f.ok → Calls Try.prog 74 #[.pointer (some ⟨g, 0, none⟩), .pointer (some ⟨pf, 0, none⟩), .agg #[.int .i64 a, .int .i64 b, .int .i64 c]] w fun e w' => e = .returned (.int .i64 x) ∧ Below w.heap.size w w') (ih' : ∀ (pf : Nat) (w : World), View w g U N v → FAt w pf f' → f'.ok → Calls Try.prog 74 #[.pointer (some ⟨g, 0, none⟩), .pointer (some ⟨pf, 0, none⟩), .agg #[.int .i64 a, .int .i64 b, .int .i64 c]] w fun e w' => e = .returned (.int .i64 y) ∧ Below w.heap.size w w') (hok : f.ok) (hok' : f'.ok) (pf : Nat) (w : World) (hV : View w g U N v) (hF : FAt w pf (.bin z f f')) :
    Calls Try.prog 74 #[.pointer (some ⟨g, 0, none⟩), .pointer (some ⟨pf, 0, none⟩), .agg #[.int .i64 a, .int .i64 b, .int .i64 c]] w fun e w' => e = .returned (.int .i64 (valF U N a b c (.bin z f f'))) ∧ Below w.heap.size w w' := by
  have hu70 := Try.underlying81
  have hu87 := Try.underlying87
  have huf := Try.underlying113
  obtain ⟨q, r, ad, cp, hP, hC0, hC1, hFq, hFr⟩ := hF
  have hv : valF U N a b c (.bin z f f') = if z = 38 then andI U x y else orI U x y := by rw [← hx, ← hy]; rfl
  rw [hv]
  have HV := Aside0.mk hV
  have HC0 := Aside0.mk hC0
  have HC1 := Aside0.mk hC1
  have HFq := Aside0.mk hFq
  have HFr := Aside0.mk hFr
  have HLg := Aside0.mk L
  have Ix := Aside0.mk ix
  have Iy := Aside0.mk iy
  have IH := Aside0.mk ih
  have IH' := Aside0.mk ih'
  have HOK := Aside0.mk hok
  have HOK' := Aside0.mk hok'
  clear hV hC0 hC1 hFq hFr L ix iy ih ih' hok hok' hx hy hv
  rcases hz with rfl | rfl
  · have HP := Aside0.mk hP
    clear hP
    rw [if_pos rfl]
    go_enter Try.func74, Try.ntmps74
    go_wp2_with ((with_reducible refine gate_dst (N := 5) rfl ?_); refine box_event ?hg (N := 5) ?hd (cs := #[.int .i64 a, .int .i64 b, .int .i64 c]) (t := 87) ?hr ?_; (case hd => rfl); (case hg => rfl); (case hr => first | (go_simp; done) | (go_simp; rfl)); intro gb hg_ w1 hbox hb; have HX1 := Aside0.mk hbox; have HB1 := Aside0.mk hb; have HV1 := Aside0.mk (View.below HV.out hb); have HP1 := Aside0.mk (blk_below HP.out hb); have s1_ : w1.cell? ⟨pf, 0, none⟩ = some (.int .u8 38) := (blk_cell HP1.out 0).trans rfl; have HC1_0 := Aside0.mk (cell_up HC0.out hb rfl); have HC1_1 := Aside0.mk (cell_up HC1.out hb rfl); have HF1q := Aside0.mk (FAt.below hb _ _ HFq.out); have HF1r := Aside0.mk (FAt.below hb _ _ HFr.out); clear hbox hb hg_)
    have HV2 := Aside0.mk (View.below HV1.out (below_drew1 (Below.refl w1.heap.size w1)))
    have HP2 := Aside0.mk (blk_below HP1.out (below_drew1 (Below.refl w1.heap.size w1)))
    have HX2 := Aside0.mk (blk_below HX1.out (below_drew1 (Below.refl w1.heap.size w1)))
    have HC2_0 := Aside0.mk (cell_up HC1_0.out (below_drew1 (Below.refl w1.heap.size w1)) rfl)
    have HC2_1 := Aside0.mk (cell_up HC1_1.out (below_drew1 (Below.refl w1.heap.size w1)) rfl)
    have HF2q := Aside0.mk (FAt.below (below_drew1 (Below.refl w1.heap.size w1)) _ _ HF1q.out)
    have HF2r := Aside0.mk (FAt.below (below_drew1 (Below.refl w1.heap.size w1)) _ _ HF1r.out)
    have HB2 := Aside0.mk (below_drew1 HB1.out)
    refine start_ (n := 10) (S := (fun w' => w'.cell? ⟨pf, 1, none⟩ = some (.slice (some ⟨ad, 0, none⟩) 2 cp) ∧ w'.cell? ⟨ad, 0, none⟩ = some (.pointer (some ⟨q, 0, none⟩)) ∧ w'.cell? ⟨gb, 0, none⟩ = some (.int .i64 a) ∧ w'.cell? ⟨gb, 1, none⟩ = some (.int .i64 b) ∧ w'.cell? ⟨gb, 2, none⟩ = some (.int .i64 c))) (ds := []) #[false, false, false, false, false, false, false, false, false, false] (by kernel_rfl) rfl rfl ⟨(blk_cell HP2.out 1).trans rfl, HC2_0.out, (blk_cell HX2.out 0).trans rfl, (blk_cell HX2.out 1).trans rfl, (blk_cell HX2.out 2).trans rfl⟩ (fun hHeld => ?_)
    refine with_tabW alg_value.tab10 alg_value.bits10 (fun HT_ HW_ => ?_)
    generalize w1.drew = w2 at hHeld HV2 HP2 HX2 HB2 HC2_0 HC2_1 HF2q HF2r ⊢
    refine pure_ (i := 0) (N := some 36) (v := ?_) (a' := ?_) #[true, false, false, false, false, false, false, false, false, false] rfl rfl (any_of HT_.out (by kernel_rfl)) (fun _ _ _ h => h) (Or.inl ⟨by rfl, ?_⟩) ?_ ?_
    rotate_left
    · intro w'; go_simp; with_reducible rfl
    rotate_left
    · simp only [Act.put, List.setIfInBounds_toArray, List.set_cons_zero, List.set_cons_succ, i64_w, i32_w]; rfl
    refine pure_ (i := 1) (N := some 37) (v := ?_) (a' := ?_) #[true, true, false, false, false, false, false, false, false, false] rfl rfl (any_of HT_.out (by kernel_rfl)) (fun _ _ _ h => h) (Or.inl ⟨by rfl, ?_⟩) ?_ ?_
    rotate_left
    · intro w'; go_simp; with_reducible rfl
    rotate_left
    · simp only [Act.put, List.setIfInBounds_toArray, List.set_cons_zero, List.set_cons_succ, i64_w, i32_w]; rfl
    refine pure_ (i := 2) (N := some 38) (v := ?_) (a' := ?_) #[true, true, true, false, false, false, false, false, false, false] rfl rfl (any_of HT_.out (by kernel_rfl)) (fun _ _ _ h => h) (Or.inl ⟨by rfl, ?_⟩) ?_ ?_
    rotate_left
    · intro w'; go_simp; with_reducible rfl
    rotate_left
    · simp only [Act.put, List.setIfInBounds_toArray, List.set_cons_zero, List.set_cons_succ, i64_w, i32_w]; rfl
    refine pure_ (i := 3) (N := some 39) (v := ?_) (a' := ?_) #[true, true, true, true, false, false, false, false, false, false] rfl rfl (any_of HT_.out (by kernel_rfl)) (fun _ _ _ h => h) (Or.inl ⟨by rfl, ?_⟩) ?_ ?_
    rotate_left
    · intro w'; go_simp; with_reducible rfl
    rotate_left
    · simp only [Act.put, List.setIfInBounds_toArray, List.set_cons_zero, List.set_cons_succ, i64_w, i32_w]; rfl
    refine take_ (i := 4) (N := some 40) (v := ?_) (a' := ?_) #[true, true, true, true, true, false, false, false, false, false] rfl rfl (take_ofW HT_.out HW_.out (by kernel_rfl)) (fun _ _ _ h => h) (Or.inl ⟨by rfl, ?_⟩) hHeld ?_ ?_
    rotate_left
    · rintro w' ⟨t0, t1, t2, t3, t4⟩; go_simp; with_reducible rfl
    rotate_left
    · simp only [Act.put, List.setIfInBounds_toArray, List.set_cons_zero, List.set_cons_succ, i64_w, i32_w]; rfl
    refine pure_ (i := 5) (N := some 41) (v := ?_) (a' := ?_) #[true, true, true, true, true, true, false, false, false, false] rfl rfl (any_of HT_.out (by kernel_rfl)) (fun _ _ _ h => h) (Or.inl ⟨by rfl, ?_⟩) ?_ ?_
    rotate_left
    · intro w'; go_simp; with_reducible rfl
    rotate_left
    · simp only [Act.put, List.setIfInBounds_toArray, List.set_cons_zero, List.set_cons_succ, i64_w, i32_w]; rfl
    refine take_ (i := 6) (N := some 42) (v := ?_) (a' := ?_) #[true, true, true, true, true, true, true, false, false, false] rfl rfl (take_ofW HT_.out HW_.out (by kernel_rfl)) (fun _ _ _ h => h) (Or.inl ⟨by rfl, ?_⟩) hHeld ?_ ?_
    rotate_left
    · rintro w' ⟨t0, t1, t2, t3, t4⟩; go_simp; with_reducible rfl
    rotate_left
    · simp only [Act.put, List.setIfInBounds_toArray, List.set_cons_zero, List.set_cons_succ, i64_w, i32_w]; rfl
    refine take_ (i := 7) (N := some 43) (v := ?_) (a' := ?_) #[true, true, true, true, true, true, true, true, false, false] rfl rfl (take_ofW HT_.out HW_.out (by kernel_rfl)) (fun _ _ _ h => h) (Or.inl ⟨by rfl, ?_⟩) hHeld ?_ ?_
    rotate_left
    · rintro w' ⟨t0, t1, t2, t3, t4⟩; go_simp; with_reducible rfl
    rotate_left
    · simp only [Act.put, List.setIfInBounds_toArray, List.set_cons_zero, List.set_cons_succ, i64_w, i32_w]; rfl
    refine one_ (i := 8) (N := some 44) #[true, true, true, true, true, true, true, true, true, false] rfl rfl (one_of HT_.out (by kernel_rfl)) (by decide) (fun K hK => ?_)
    refine goes_ Try.func74 (by kernel_rfl) rfl #[.pointer (some ⟨g, 0, none⟩), .pointer (some ⟨q, 0, none⟩), .agg #[.int .i64 a, .int .i64 b, .int .i64 c]] (by rfl) rfl rfl (by (try simp only [List.map_toArray, List.map_cons, List.map_nil]); first | done | rfl) ?_
    refine (IH.out q w2 HV2.out HF2q.out HOK.out).mono ?_
    rintro e w3 ⟨rfl, hb⟩
    refine ⟨_, rfl, ?_⟩
    have HB3 := Aside0.mk (below_step HB2.out hb)
    have HV3 := Aside0.mk (View.below HV2.out hb)
    have HP3 := Aside0.mk (blk_below HP2.out hb)
    have HX3 := Aside0.mk (blk_below HX2.out hb)
    have HC3_0 := Aside0.mk (cell_up HC2_0.out hb rfl)
    have HC3_1 := Aside0.mk (cell_up HC2_1.out hb rfl)
    have HF3q := Aside0.mk (FAt.below hb _ _ HF2q.out)
    have HF3r := Aside0.mk (FAt.below hb _ _ HF2r.out)
    refine hK.out _ _ ⟨(blk_cell HP3.out 1).trans rfl, HC3_0.out, (blk_cell HX3.out 0).trans rfl, (blk_cell HX3.out 1).trans rfl, (blk_cell HX3.out 2).trans rfl⟩ (fun hHeld3 => ?_)
    clear hK K hb
    refine norm_ (a' := ?_) ?_ ?_
    rotate_left
    · show Act.put _ (some 44) _ = _
      simp only [Act.put, List.setIfInBounds_toArray, List.set_cons_zero, List.set_cons_succ, i64_w, i32_w]
      rfl
    refine pure_ (i := 9) (N := some 7) (v := ?_) (a' := ?_) #[true, true, true, true, true, true, true, true, true, true] rfl rfl (any_of HT_.out (by kernel_rfl)) (fun _ _ _ h => h) (Or.inl ⟨by rfl, ?_⟩) ?_ ?_
    rotate_left
    · intro w'; go_simp; with_reducible rfl
    rotate_left
    · simp only [Act.put, List.setIfInBounds_toArray, List.set_cons_zero, List.set_cons_succ, i64_w, i32_w]; rfl
    refine done_ (done_of HT_.out (by kernel_rfl)) ?_
    clear hHeld hHeld3 s1_
    have s3_ : w3.cell? ⟨pf, 0, none⟩ = some (.int .u8 38) := (blk_cell HP3.out 0).trans rfl
    go_wp2
    have HV4 := Aside0.mk (View.below HV3.out (below_drew1 (Below.refl w3.heap.size w3)))
    have HP4 := Aside0.mk (blk_below HP3.out (below_drew1 (Below.refl w3.heap.size w3)))
    have HX4 := Aside0.mk (blk_below HX3.out (below_drew1 (Below.refl w3.heap.size w3)))
    have HC4_0 := Aside0.mk (cell_up HC3_0.out (below_drew1 (Below.refl w3.heap.size w3)) rfl)
    have HC4_1 := Aside0.mk (cell_up HC3_1.out (below_drew1 (Below.refl w3.heap.size w3)) rfl)
    have HF4q := Aside0.mk (FAt.below (below_drew1 (Below.refl w3.heap.size w3)) _ _ HF3q.out)
    have HF4r := Aside0.mk (FAt.below (below_drew1 (Below.refl w3.heap.size w3)) _ _ HF3r.out)
    have HB4 := Aside0.mk (below_drew1 HB3.out)
    refine start_ (n := 10) (S := (fun w' => w'.cell? ⟨pf, 1, none⟩ = some (.slice (some ⟨ad, 0, none⟩) 2 cp) ∧ w'.cell? ⟨ad, 1, none⟩ = some (.pointer (some ⟨r, 0, none⟩)) ∧ w'.cell? ⟨gb, 0, none⟩ = some (.int .i64 a) ∧ w'.cell? ⟨gb, 1, none⟩ = some (.int .i64 b) ∧ w'.cell? ⟨gb, 2, none⟩ = some (.int .i64 c))) (ds := []) #[false, false, false, false, false, false, false, false, false, false] (by kernel_rfl) rfl rfl ⟨(blk_cell HP4.out 1).trans rfl, HC4_1.out, (blk_cell HX4.out 0).trans rfl, (blk_cell HX4.out 1).trans rfl, (blk_cell HX4.out 2).trans rfl⟩ (fun hHeld => ?_)
    refine with_tabW alg_value.tab13 alg_value.bits13 (fun HT_ HW_ => ?_)
    generalize w3.drew = w4 at hHeld HV4 HP4 HX4 HB4 HC4_0 HC4_1 HF4q HF4r ⊢
    refine pure_ (i := 0) (N := some 57) (v := ?_) (a' := ?_) #[true, false, false, false, false, false, false, false, false, false] rfl rfl (any_of HT_.out (by kernel_rfl)) (fun _ _ _ h => h) (Or.inl ⟨by rfl, ?_⟩) ?_ ?_
    rotate_left
    · intro w'; go_simp; with_reducible rfl
    rotate_left
    · simp only [Act.put, List.setIfInBounds_toArray, List.set_cons_zero, List.set_cons_succ, i64_w, i32_w]; rfl
    refine pure_ (i := 1) (N := some 58) (v := ?_) (a' := ?_) #[true, true, false, false, false, false, false, false, false, false] rfl rfl (any_of HT_.out (by kernel_rfl)) (fun _ _ _ h => h) (Or.inl ⟨by rfl, ?_⟩) ?_ ?_
    rotate_left
    · intro w'; go_simp; with_reducible rfl
    rotate_left
    · simp only [Act.put, List.setIfInBounds_toArray, List.set_cons_zero, List.set_cons_succ, i64_w, i32_w]; rfl
    refine pure_ (i := 2) (N := some 59) (v := ?_) (a' := ?_) #[true, true, true, false, false, false, false, false, false, false] rfl rfl (any_of HT_.out (by kernel_rfl)) (fun _ _ _ h => h) (Or.inl ⟨by rfl, ?_⟩) ?_ ?_
    rotate_left
    · intro w'; go_simp; with_reducible rfl
    rotate_left
    · simp only [Act.put, List.setIfInBounds_toArray, List.set_cons_zero, List.set_cons_succ, i64_w, i32_w]; rfl
    refine pure_ (i := 3) (N := some 60) (v := ?_) (a' := ?_) #[true, true, true, true, false, false, false, false, false, false] rfl rfl (any_of HT_.out (by kernel_rfl)) (fun _ _ _ h => h) (Or.inl ⟨by rfl, ?_⟩) ?_ ?_
    rotate_left
    · intro w'; go_simp; with_reducible rfl
    rotate_left
    · simp only [Act.put, List.setIfInBounds_toArray, List.set_cons_zero, List.set_cons_succ, i64_w, i32_w]; rfl
    refine take_ (i := 4) (N := some 61) (v := ?_) (a' := ?_) #[true, true, true, true, true, false, false, false, false, false] rfl rfl (take_ofW HT_.out HW_.out (by kernel_rfl)) (fun _ _ _ h => h) (Or.inl ⟨by rfl, ?_⟩) hHeld ?_ ?_
    rotate_left
    · rintro w' ⟨t0, t1, t2, t3, t4⟩; go_simp; with_reducible rfl
    rotate_left
    · simp only [Act.put, List.setIfInBounds_toArray, List.set_cons_zero, List.set_cons_succ, i64_w, i32_w]; rfl
    refine pure_ (i := 5) (N := some 62) (v := ?_) (a' := ?_) #[true, true, true, true, true, true, false, false, false, false] rfl rfl (any_of HT_.out (by kernel_rfl)) (fun _ _ _ h => h) (Or.inl ⟨by rfl, ?_⟩) ?_ ?_
    rotate_left
    · intro w'; go_simp; with_reducible rfl
    rotate_left
    · simp only [Act.put, List.setIfInBounds_toArray, List.set_cons_zero, List.set_cons_succ, i64_w, i32_w]; rfl
    refine take_ (i := 6) (N := some 63) (v := ?_) (a' := ?_) #[true, true, true, true, true, true, true, false, false, false] rfl rfl (take_ofW HT_.out HW_.out (by kernel_rfl)) (fun _ _ _ h => h) (Or.inl ⟨by rfl, ?_⟩) hHeld ?_ ?_
    rotate_left
    · rintro w' ⟨t0, t1, t2, t3, t4⟩; go_simp; with_reducible rfl
    rotate_left
    · simp only [Act.put, List.setIfInBounds_toArray, List.set_cons_zero, List.set_cons_succ, i64_w, i32_w]; rfl
    refine take_ (i := 7) (N := some 64) (v := ?_) (a' := ?_) #[true, true, true, true, true, true, true, true, false, false] rfl rfl (take_ofW HT_.out HW_.out (by kernel_rfl)) (fun _ _ _ h => h) (Or.inl ⟨by rfl, ?_⟩) hHeld ?_ ?_
    rotate_left
    · rintro w' ⟨t0, t1, t2, t3, t4⟩; go_simp; with_reducible rfl
    rotate_left
    · simp only [Act.put, List.setIfInBounds_toArray, List.set_cons_zero, List.set_cons_succ, i64_w, i32_w]; rfl
    refine one_ (i := 8) (N := some 65) #[true, true, true, true, true, true, true, true, true, false] rfl rfl (one_of HT_.out (by kernel_rfl)) (by decide) (fun K hK => ?_)
    refine goes_ Try.func74 (by kernel_rfl) rfl #[.pointer (some ⟨g, 0, none⟩), .pointer (some ⟨r, 0, none⟩), .agg #[.int .i64 a, .int .i64 b, .int .i64 c]] (by rfl) rfl rfl (by (try simp only [List.map_toArray, List.map_cons, List.map_nil]); first | done | rfl) ?_
    refine (IH'.out r w4 HV4.out HF4r.out HOK'.out).mono ?_
    rintro e w5 ⟨rfl, hb⟩
    refine ⟨_, rfl, ?_⟩
    have HB5 := Aside0.mk (below_step HB4.out hb)
    have HV5 := Aside0.mk (View.below HV4.out hb)
    have HP5 := Aside0.mk (blk_below HP4.out hb)
    have HX5 := Aside0.mk (blk_below HX4.out hb)
    have HC5_0 := Aside0.mk (cell_up HC4_0.out hb rfl)
    have HC5_1 := Aside0.mk (cell_up HC4_1.out hb rfl)
    have HF5q := Aside0.mk (FAt.below hb _ _ HF4q.out)
    have HF5r := Aside0.mk (FAt.below hb _ _ HF4r.out)
    refine hK.out _ _ ⟨(blk_cell HP5.out 1).trans rfl, HC5_1.out, (blk_cell HX5.out 0).trans rfl, (blk_cell HX5.out 1).trans rfl, (blk_cell HX5.out 2).trans rfl⟩ (fun hHeld5 => ?_)
    clear hK K hb
    refine norm_ (a' := ?_) ?_ ?_
    rotate_left
    · show Act.put _ (some 65) _ = _
      simp only [Act.put, List.setIfInBounds_toArray, List.set_cons_zero, List.set_cons_succ, i64_w, i32_w]
      rfl
    refine pure_ (i := 9) (N := some 8) (v := ?_) (a' := ?_) #[true, true, true, true, true, true, true, true, true, true] rfl rfl (any_of HT_.out (by kernel_rfl)) (fun _ _ _ h => h) (Or.inl ⟨by rfl, ?_⟩) ?_ ?_
    rotate_left
    · intro w'; go_simp; with_reducible rfl
    rotate_left
    · simp only [Act.put, List.setIfInBounds_toArray, List.set_cons_zero, List.set_cons_succ, i64_w, i32_w]; rfl
    refine done_ (done_of HT_.out (by kernel_rfl)) ?_
    clear hHeld hHeld5 s3_
    have s5_ : w5.cell? ⟨pf, 0, none⟩ = some (.int .u8 38) := (blk_cell HP5.out 0).trans rfl
    have b0_ := eq_true Ix.out.1; have c0_ := eq_true Ix.out.2
    have b1_ := eq_true Iy.out.1; have c1_ := eq_true Iy.out.2
    have hf1_ := HV5.out.f1
    have r3_ := HV5.out.m x Ix.out
    have s4_ := HV5.out.m2 x y Ix.out Iy.out
    go_wp2
    go_ret
    exact ⟨rfl, HB5.out⟩
  · have HP := Aside0.mk hP
    clear hP
    rw [if_neg (by decide)]
    go_enter Try.func74, Try.ntmps74
    go_wp2_with ((with_reducible refine gate_dst (N := 5) rfl ?_); refine box_event ?hg (N := 5) ?hd (cs := #[.int .i64 a, .int .i64 b, .int .i64 c]) (t := 87) ?hr ?_; (case hd => rfl); (case hg => rfl); (case hr => first | (go_simp; done) | (go_simp; rfl)); intro gb hg_ w1 hbox hb; have HX1 := Aside0.mk hbox; have HB1 := Aside0.mk hb; have HV1 := Aside0.mk (View.below HV.out hb); have HP1 := Aside0.mk (blk_below HP.out hb); have s1_ : w1.cell? ⟨pf, 0, none⟩ = some (.int .u8 124) := (blk_cell HP1.out 0).trans rfl; have HC1_0 := Aside0.mk (cell_up HC0.out hb rfl); have HC1_1 := Aside0.mk (cell_up HC1.out hb rfl); have HF1q := Aside0.mk (FAt.below hb _ _ HFq.out); have HF1r := Aside0.mk (FAt.below hb _ _ HFr.out); clear hbox hb hg_)
    have HV2 := Aside0.mk (View.below HV1.out (below_drew1 (Below.refl w1.heap.size w1)))
    have HP2 := Aside0.mk (blk_below HP1.out (below_drew1 (Below.refl w1.heap.size w1)))
    have HX2 := Aside0.mk (blk_below HX1.out (below_drew1 (Below.refl w1.heap.size w1)))
    have HC2_0 := Aside0.mk (cell_up HC1_0.out (below_drew1 (Below.refl w1.heap.size w1)) rfl)
    have HC2_1 := Aside0.mk (cell_up HC1_1.out (below_drew1 (Below.refl w1.heap.size w1)) rfl)
    have HF2q := Aside0.mk (FAt.below (below_drew1 (Below.refl w1.heap.size w1)) _ _ HF1q.out)
    have HF2r := Aside0.mk (FAt.below (below_drew1 (Below.refl w1.heap.size w1)) _ _ HF1r.out)
    have HB2 := Aside0.mk (below_drew1 HB1.out)
    refine start_ (n := 10) (S := (fun w' => w'.cell? ⟨pf, 1, none⟩ = some (.slice (some ⟨ad, 0, none⟩) 2 cp) ∧ w'.cell? ⟨ad, 0, none⟩ = some (.pointer (some ⟨q, 0, none⟩)) ∧ w'.cell? ⟨gb, 0, none⟩ = some (.int .i64 a) ∧ w'.cell? ⟨gb, 1, none⟩ = some (.int .i64 b) ∧ w'.cell? ⟨gb, 2, none⟩ = some (.int .i64 c))) (ds := []) #[false, false, false, false, false, false, false, false, false, false] (by kernel_rfl) rfl rfl ⟨(blk_cell HP2.out 1).trans rfl, HC2_0.out, (blk_cell HX2.out 0).trans rfl, (blk_cell HX2.out 1).trans rfl, (blk_cell HX2.out 2).trans rfl⟩ (fun hHeld => ?_)
    refine with_tabW alg_value.tab10 alg_value.bits10 (fun HT_ HW_ => ?_)
    generalize w1.drew = w2 at hHeld HV2 HP2 HX2 HB2 HC2_0 HC2_1 HF2q HF2r ⊢
    refine pure_ (i := 0) (N := some 36) (v := ?_) (a' := ?_) #[true, false, false, false, false, false, false, false, false, false] rfl rfl (any_of HT_.out (by kernel_rfl)) (fun _ _ _ h => h) (Or.inl ⟨by rfl, ?_⟩) ?_ ?_
    rotate_left
    · intro w'; go_simp; with_reducible rfl
    rotate_left
    · simp only [Act.put, List.setIfInBounds_toArray, List.set_cons_zero, List.set_cons_succ, i64_w, i32_w]; rfl
    refine pure_ (i := 1) (N := some 37) (v := ?_) (a' := ?_) #[true, true, false, false, false, false, false, false, false, false] rfl rfl (any_of HT_.out (by kernel_rfl)) (fun _ _ _ h => h) (Or.inl ⟨by rfl, ?_⟩) ?_ ?_
    rotate_left
    · intro w'; go_simp; with_reducible rfl
    rotate_left
    · simp only [Act.put, List.setIfInBounds_toArray, List.set_cons_zero, List.set_cons_succ, i64_w, i32_w]; rfl
    refine pure_ (i := 2) (N := some 38) (v := ?_) (a' := ?_) #[true, true, true, false, false, false, false, false, false, false] rfl rfl (any_of HT_.out (by kernel_rfl)) (fun _ _ _ h => h) (Or.inl ⟨by rfl, ?_⟩) ?_ ?_
    rotate_left
    · intro w'; go_simp; with_reducible rfl
    rotate_left
    · simp only [Act.put, List.setIfInBounds_toArray, List.set_cons_zero, List.set_cons_succ, i64_w, i32_w]; rfl
    refine pure_ (i := 3) (N := some 39) (v := ?_) (a' := ?_) #[true, true, true, true, false, false, false, false, false, false] rfl rfl (any_of HT_.out (by kernel_rfl)) (fun _ _ _ h => h) (Or.inl ⟨by rfl, ?_⟩) ?_ ?_
    rotate_left
    · intro w'; go_simp; with_reducible rfl
    rotate_left
    · simp only [Act.put, List.setIfInBounds_toArray, List.set_cons_zero, List.set_cons_succ, i64_w, i32_w]; rfl
    refine take_ (i := 4) (N := some 40) (v := ?_) (a' := ?_) #[true, true, true, true, true, false, false, false, false, false] rfl rfl (take_ofW HT_.out HW_.out (by kernel_rfl)) (fun _ _ _ h => h) (Or.inl ⟨by rfl, ?_⟩) hHeld ?_ ?_
    rotate_left
    · rintro w' ⟨t0, t1, t2, t3, t4⟩; go_simp; with_reducible rfl
    rotate_left
    · simp only [Act.put, List.setIfInBounds_toArray, List.set_cons_zero, List.set_cons_succ, i64_w, i32_w]; rfl
    refine pure_ (i := 5) (N := some 41) (v := ?_) (a' := ?_) #[true, true, true, true, true, true, false, false, false, false] rfl rfl (any_of HT_.out (by kernel_rfl)) (fun _ _ _ h => h) (Or.inl ⟨by rfl, ?_⟩) ?_ ?_
    rotate_left
    · intro w'; go_simp; with_reducible rfl
    rotate_left
    · simp only [Act.put, List.setIfInBounds_toArray, List.set_cons_zero, List.set_cons_succ, i64_w, i32_w]; rfl
    refine take_ (i := 6) (N := some 42) (v := ?_) (a' := ?_) #[true, true, true, true, true, true, true, false, false, false] rfl rfl (take_ofW HT_.out HW_.out (by kernel_rfl)) (fun _ _ _ h => h) (Or.inl ⟨by rfl, ?_⟩) hHeld ?_ ?_
    rotate_left
    · rintro w' ⟨t0, t1, t2, t3, t4⟩; go_simp; with_reducible rfl
    rotate_left
    · simp only [Act.put, List.setIfInBounds_toArray, List.set_cons_zero, List.set_cons_succ, i64_w, i32_w]; rfl
    refine take_ (i := 7) (N := some 43) (v := ?_) (a' := ?_) #[true, true, true, true, true, true, true, true, false, false] rfl rfl (take_ofW HT_.out HW_.out (by kernel_rfl)) (fun _ _ _ h => h) (Or.inl ⟨by rfl, ?_⟩) hHeld ?_ ?_
    rotate_left
    · rintro w' ⟨t0, t1, t2, t3, t4⟩; go_simp; with_reducible rfl
    rotate_left
    · simp only [Act.put, List.setIfInBounds_toArray, List.set_cons_zero, List.set_cons_succ, i64_w, i32_w]; rfl
    refine one_ (i := 8) (N := some 44) #[true, true, true, true, true, true, true, true, true, false] rfl rfl (one_of HT_.out (by kernel_rfl)) (by decide) (fun K hK => ?_)
    refine goes_ Try.func74 (by kernel_rfl) rfl #[.pointer (some ⟨g, 0, none⟩), .pointer (some ⟨q, 0, none⟩), .agg #[.int .i64 a, .int .i64 b, .int .i64 c]] (by rfl) rfl rfl (by (try simp only [List.map_toArray, List.map_cons, List.map_nil]); first | done | rfl) ?_
    refine (IH.out q w2 HV2.out HF2q.out HOK.out).mono ?_
    rintro e w3 ⟨rfl, hb⟩
    refine ⟨_, rfl, ?_⟩
    have HB3 := Aside0.mk (below_step HB2.out hb)
    have HV3 := Aside0.mk (View.below HV2.out hb)
    have HP3 := Aside0.mk (blk_below HP2.out hb)
    have HX3 := Aside0.mk (blk_below HX2.out hb)
    have HC3_0 := Aside0.mk (cell_up HC2_0.out hb rfl)
    have HC3_1 := Aside0.mk (cell_up HC2_1.out hb rfl)
    have HF3q := Aside0.mk (FAt.below hb _ _ HF2q.out)
    have HF3r := Aside0.mk (FAt.below hb _ _ HF2r.out)
    refine hK.out _ _ ⟨(blk_cell HP3.out 1).trans rfl, HC3_0.out, (blk_cell HX3.out 0).trans rfl, (blk_cell HX3.out 1).trans rfl, (blk_cell HX3.out 2).trans rfl⟩ (fun hHeld3 => ?_)
    clear hK K hb
    refine norm_ (a' := ?_) ?_ ?_
    rotate_left
    · show Act.put _ (some 44) _ = _
      simp only [Act.put, List.setIfInBounds_toArray, List.set_cons_zero, List.set_cons_succ, i64_w, i32_w]
      rfl
    refine pure_ (i := 9) (N := some 7) (v := ?_) (a' := ?_) #[true, true, true, true, true, true, true, true, true, true] rfl rfl (any_of HT_.out (by kernel_rfl)) (fun _ _ _ h => h) (Or.inl ⟨by rfl, ?_⟩) ?_ ?_
    rotate_left
    · intro w'; go_simp; with_reducible rfl
    rotate_left
    · simp only [Act.put, List.setIfInBounds_toArray, List.set_cons_zero, List.set_cons_succ, i64_w, i32_w]; rfl
    refine done_ (done_of HT_.out (by kernel_rfl)) ?_
    clear hHeld hHeld3 s1_
    have s3_ : w3.cell? ⟨pf, 0, none⟩ = some (.int .u8 124) := (blk_cell HP3.out 0).trans rfl
    go_wp2
    have HV4 := Aside0.mk (View.below HV3.out (below_drew1 (Below.refl w3.heap.size w3)))
    have HP4 := Aside0.mk (blk_below HP3.out (below_drew1 (Below.refl w3.heap.size w3)))
    have HX4 := Aside0.mk (blk_below HX3.out (below_drew1 (Below.refl w3.heap.size w3)))
    have HC4_0 := Aside0.mk (cell_up HC3_0.out (below_drew1 (Below.refl w3.heap.size w3)) rfl)
    have HC4_1 := Aside0.mk (cell_up HC3_1.out (below_drew1 (Below.refl w3.heap.size w3)) rfl)
    have HF4q := Aside0.mk (FAt.below (below_drew1 (Below.refl w3.heap.size w3)) _ _ HF3q.out)
    have HF4r := Aside0.mk (FAt.below (below_drew1 (Below.refl w3.heap.size w3)) _ _ HF3r.out)
    have HB4 := Aside0.mk (below_drew1 HB3.out)
    refine start_ (n := 10) (S := (fun w' => w'.cell? ⟨pf, 1, none⟩ = some (.slice (some ⟨ad, 0, none⟩) 2 cp) ∧ w'.cell? ⟨ad, 1, none⟩ = some (.pointer (some ⟨r, 0, none⟩)) ∧ w'.cell? ⟨gb, 0, none⟩ = some (.int .i64 a) ∧ w'.cell? ⟨gb, 1, none⟩ = some (.int .i64 b) ∧ w'.cell? ⟨gb, 2, none⟩ = some (.int .i64 c))) (ds := []) #[false, false, false, false, false, false, false, false, false, false] (by kernel_rfl) rfl rfl ⟨(blk_cell HP4.out 1).trans rfl, HC4_1.out, (blk_cell HX4.out 0).trans rfl, (blk_cell HX4.out 1).trans rfl, (blk_cell HX4.out 2).trans rfl⟩ (fun hHeld => ?_)
    refine with_tabW alg_value.tab13 alg_value.bits13 (fun HT_ HW_ => ?_)
    generalize w3.drew = w4 at hHeld HV4 HP4 HX4 HB4 HC4_0 HC4_1 HF4q HF4r ⊢
    refine pure_ (i := 0) (N := some 57) (v := ?_) (a' := ?_) #[true, false, false, false, false, false, false, false, false, false] rfl rfl (any_of HT_.out (by kernel_rfl)) (fun _ _ _ h => h) (Or.inl ⟨by rfl, ?_⟩) ?_ ?_
    rotate_left
    · intro w'; go_simp; with_reducible rfl
    rotate_left
    · simp only [Act.put, List.setIfInBounds_toArray, List.set_cons_zero, List.set_cons_succ, i64_w, i32_w]; rfl
    refine pure_ (i := 1) (N := some 58) (v := ?_) (a' := ?_) #[true, true, false, false, false, false, false, false, false, false] rfl rfl (any_of HT_.out (by kernel_rfl)) (fun _ _ _ h => h) (Or.inl ⟨by rfl, ?_⟩) ?_ ?_
    rotate_left
    · intro w'; go_simp; with_reducible rfl
    rotate_left
    · simp only [Act.put, List.setIfInBounds_toArray, List.set_cons_zero, List.set_cons_succ, i64_w, i32_w]; rfl
    refine pure_ (i := 2) (N := some 59) (v := ?_) (a' := ?_) #[true, true, true, false, false, false, false, false, false, false] rfl rfl (any_of HT_.out (by kernel_rfl)) (fun _ _ _ h => h) (Or.inl ⟨by rfl, ?_⟩) ?_ ?_
    rotate_left
    · intro w'; go_simp; with_reducible rfl
    rotate_left
    · simp only [Act.put, List.setIfInBounds_toArray, List.set_cons_zero, List.set_cons_succ, i64_w, i32_w]; rfl
    refine pure_ (i := 3) (N := some 60) (v := ?_) (a' := ?_) #[true, true, true, true, false, false, false, false, false, false] rfl rfl (any_of HT_.out (by kernel_rfl)) (fun _ _ _ h => h) (Or.inl ⟨by rfl, ?_⟩) ?_ ?_
    rotate_left
    · intro w'; go_simp; with_reducible rfl
    rotate_left
    · simp only [Act.put, List.setIfInBounds_toArray, List.set_cons_zero, List.set_cons_succ, i64_w, i32_w]; rfl
    refine take_ (i := 4) (N := some 61) (v := ?_) (a' := ?_) #[true, true, true, true, true, false, false, false, false, false] rfl rfl (take_ofW HT_.out HW_.out (by kernel_rfl)) (fun _ _ _ h => h) (Or.inl ⟨by rfl, ?_⟩) hHeld ?_ ?_
    rotate_left
    · rintro w' ⟨t0, t1, t2, t3, t4⟩; go_simp; with_reducible rfl
    rotate_left
    · simp only [Act.put, List.setIfInBounds_toArray, List.set_cons_zero, List.set_cons_succ, i64_w, i32_w]; rfl
    refine pure_ (i := 5) (N := some 62) (v := ?_) (a' := ?_) #[true, true, true, true, true, true, false, false, false, false] rfl rfl (any_of HT_.out (by kernel_rfl)) (fun _ _ _ h => h) (Or.inl ⟨by rfl, ?_⟩) ?_ ?_
    rotate_left
    · intro w'; go_simp; with_reducible rfl
    rotate_left
    · simp only [Act.put, List.setIfInBounds_toArray, List.set_cons_zero, List.set_cons_succ, i64_w, i32_w]; rfl
    refine take_ (i := 6) (N := some 63) (v := ?_) (a' := ?_) #[true, true, true, true, true, true, true, false, false, false] rfl rfl (take_ofW HT_.out HW_.out (by kernel_rfl)) (fun _ _ _ h => h) (Or.inl ⟨by rfl, ?_⟩) hHeld ?_ ?_
    rotate_left
    · rintro w' ⟨t0, t1, t2, t3, t4⟩; go_simp; with_reducible rfl
    rotate_left
    · simp only [Act.put, List.setIfInBounds_toArray, List.set_cons_zero, List.set_cons_succ, i64_w, i32_w]; rfl
    refine take_ (i := 7) (N := some 64) (v := ?_) (a' := ?_) #[true, true, true, true, true, true, true, true, false, false] rfl rfl (take_ofW HT_.out HW_.out (by kernel_rfl)) (fun _ _ _ h => h) (Or.inl ⟨by rfl, ?_⟩) hHeld ?_ ?_
    rotate_left
    · rintro w' ⟨t0, t1, t2, t3, t4⟩; go_simp; with_reducible rfl
    rotate_left
    · simp only [Act.put, List.setIfInBounds_toArray, List.set_cons_zero, List.set_cons_succ, i64_w, i32_w]; rfl
    refine one_ (i := 8) (N := some 65) #[true, true, true, true, true, true, true, true, true, false] rfl rfl (one_of HT_.out (by kernel_rfl)) (by decide) (fun K hK => ?_)
    refine goes_ Try.func74 (by kernel_rfl) rfl #[.pointer (some ⟨g, 0, none⟩), .pointer (some ⟨r, 0, none⟩), .agg #[.int .i64 a, .int .i64 b, .int .i64 c]] (by rfl) rfl rfl (by (try simp only [List.map_toArray, List.map_cons, List.map_nil]); first | done | rfl) ?_
    refine (IH'.out r w4 HV4.out HF4r.out HOK'.out).mono ?_
    rintro e w5 ⟨rfl, hb⟩
    refine ⟨_, rfl, ?_⟩
    have HB5 := Aside0.mk (below_step HB4.out hb)
    have HV5 := Aside0.mk (View.below HV4.out hb)
    have HP5 := Aside0.mk (blk_below HP4.out hb)
    have HX5 := Aside0.mk (blk_below HX4.out hb)
    have HC5_0 := Aside0.mk (cell_up HC4_0.out hb rfl)
    have HC5_1 := Aside0.mk (cell_up HC4_1.out hb rfl)
    have HF5q := Aside0.mk (FAt.below hb _ _ HF4q.out)
    have HF5r := Aside0.mk (FAt.below hb _ _ HF4r.out)
    refine hK.out _ _ ⟨(blk_cell HP5.out 1).trans rfl, HC5_1.out, (blk_cell HX5.out 0).trans rfl, (blk_cell HX5.out 1).trans rfl, (blk_cell HX5.out 2).trans rfl⟩ (fun hHeld5 => ?_)
    clear hK K hb
    refine norm_ (a' := ?_) ?_ ?_
    rotate_left
    · show Act.put _ (some 65) _ = _
      simp only [Act.put, List.setIfInBounds_toArray, List.set_cons_zero, List.set_cons_succ, i64_w, i32_w]
      rfl
    refine pure_ (i := 9) (N := some 8) (v := ?_) (a' := ?_) #[true, true, true, true, true, true, true, true, true, true] rfl rfl (any_of HT_.out (by kernel_rfl)) (fun _ _ _ h => h) (Or.inl ⟨by rfl, ?_⟩) ?_ ?_
    rotate_left
    · intro w'; go_simp; with_reducible rfl
    rotate_left
    · simp only [Act.put, List.setIfInBounds_toArray, List.set_cons_zero, List.set_cons_succ, i64_w, i32_w]; rfl
    refine done_ (done_of HT_.out (by kernel_rfl)) ?_
    clear hHeld hHeld5 s3_
    have s5_ : w5.cell? ⟨pf, 0, none⟩ = some (.int .u8 124) := (blk_cell HP5.out 0).trans rfl
    have b0_ := eq_true Ix.out.1; have c0_ := eq_true Ix.out.2
    have b1_ := eq_true Iy.out.1; have c1_ := eq_true Iy.out.2
    have hf2_ := HV5.out.f2
    have r3_ := HV5.out.j x Ix.out
    have s4_ := HV5.out.j2 x y Ix.out Iy.out
    go_wp2
    go_ret
    exact ⟨rfl, HB5.out⟩
theorem value_calls (g : Nat) (U : List (List Int)) (N : List Int) (v : Adr) (L : Logic U N) (a b c : Int) (ia : In U a) (ib : In U b) (ic : In U c) : ∀ (f : Fm) (pf : Nat) (w : World), View w g U N v → FAt w pf f → f.ok →
    Calls Try.prog 74 #[.pointer (some ⟨g, 0, none⟩), .pointer (some ⟨pf, 0, none⟩), .agg #[.int .i64 a, .int .i64 b, .int .i64 c]] w fun e w' => e = .returned (.int .i64 (valF U N a b c f)) ∧ Below w.heap.size w w'
  | .leaf x, pf, w, hV, hF, hok => value_leaf g U N v L a b c x hok pf w hV hF
  | .neg f, pf, w, hV, hF, hok => value_neg g U N v L a b c f _ rfl (in_val L ia ib ic f) (value_calls g U N v L a b c ia ib ic f) hok pf w hV hF
  | .bin z f f', pf, w, hV, hF, hok => value_bin g U N v L a b c z hok.1 f f' _ _ rfl rfl (in_val L ia ib ic f) (in_val L ia ib ic f') (value_calls g U N v L a b c ia ib ic f) (value_calls g U N v L a b c ia ib ic f') hok.2.1 hok.2.2 pf w hV hF
end Go.Proofs.Ythideghgdmokkaa.Print
end
