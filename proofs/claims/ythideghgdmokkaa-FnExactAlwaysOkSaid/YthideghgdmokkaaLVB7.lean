/- Part 7 of what is common to several claims of this seat: SameOkL, AlwaysOkL. -/
import Derived.Test.YthideghgdmokkaaLVB6
import Derived.Below
import Derived.Deep.Draws
import Derived.Deep.AppendLies
import Derived.Maps.AppendAt
import Derived.OwnWalk
import Derived.Laws.BytesArg
import Derived.Laws.MakeOwn
import Derived.Laws.OwnMore
import Derived.Deep.OwnRows
import Derived.Tactics
import Derived.Lib.ConvBytes
import Derived.Laws.Slices
import Derived.WalkKit
import Derived.KernelRfl
import Derived.RowKit3
import Derived.Deep.LoopGhost
import Derived.Deep.QuietTactic
import Derived.BigQuiet
import Derived.WideLaws
import Derived.Deep.DeepCutAuto
import Derived.Deep.CutBlock
import Derived.Deep.RegionHeld3
import Derived.Laws.Rows
import Derived.Lib.AppendStr
import Derived.ArgAppend
import Derived.Laws.IdiomCopy
import Derived.RowKit
import Derived.OrdersHeld
import Derived.Laws.BitsLemmas
import Derived.Test.YthideghgdmokkaaProg
import Derived.Deep.Matrix
import Derived.Lib.SmallJoins
section
namespace Go.Proofs.Ythideghgdmokkaa.Print
open Go.RowKit Go.Proofs.YthideghgdmokkaaW.PrintWords Go.Proofs.YthideghgdmokkaaW.PrintLast Go.Proofs.YthideghgdmokkaaW.PrintMore
attribute [local go_sem] max2_int min2_int max_two min_two max_three min_three max_four min_four   -- for this text's walks alone
set_option linter.unusedVariables false
set_option linter.unusedSimpArgs false
def spec_l10Value.f : Nat → List (List Int) → List Int → ByteArray → Int → Int → Int → Int → Option (Int)
 | 0, _, _, _, _, _, _, _ => none
 | k + 1, l0_0, l0_1, a1, a2, a3, a4, a5 => if 0 < (a1.size : Int) then (if (bt a1 0) = 97 then (some a2) else (if (bt a1 0) = 98 then (some a3) else (if (bt a1 0) = 99 then (some a4) else (if (bt a1 0) = 48 then (some a5) else (if (bt a1 0) = 49 then (if 0 ≤ a5 then (if a5 < (l0_1.length : Int) then (some (rd l0_1 a5)) else (none)) else (none)) else (if (bt a1 0) = 33 then (if 1 ≤ (a1.size : Int) then ((spec_l10Value.f k l0_0 l0_1 (a1.extract 1 a1.size) a2 a3 a4 a5).bind fun t411 => (if 0 ≤ t411 then (if t411 < (l0_1.length : Int) then (some (rd l0_1 t411)) else (none)) else (none))) else (none)) else ((spec_l10End.f k a1 1).bind fun t413 => (if 1 ≤ t413 then (if t413 ≤ (a1.size : Int) then ((spec_l10Value.f k l0_0 l0_1 (a1.extract 1 (t413 : Int).toNat) a2 a3 a4 a5).bind fun t414 => (if 0 ≤ (wrap64 (t413 + 1)) then (if (wrap64 (t413 + 1)) ≤ (wrap64 ((a1.size : Int) - 1)) then (if (wrap64 ((a1.size : Int) - 1)) ≤ (a1.size : Int) then ((spec_l10Value.f k l0_0 l0_1 (a1.extract ((wrap64 (t413 + 1)) : Int).toNat ((wrap64 ((a1.size : Int) - 1)) : Int).toNat) a2 a3 a4 a5).bind fun t415 => (if 0 ≤ t413 then (if t413 < (a1.size : Int) then (if (bt a1 t413) = 38 then ((spec_l1Meet.f k l0_0 t414 t415).bind fun t416 => (some t416)) else ((spec_l1Join.f k l0_0 t414 t415).bind fun t417 => (some t417))) else (none)) else (none))) else (none)) else (none)) else (none))) else (none)) else (none))))))))) else (none)
def spec_l10Value.T13 : Bool × List (List Nat × List Nat) := (true, [([], []), ([0], [0]), ([], []), ([], []), ([3], [3]), ([], []), ([], []), ([], []), ([], []), ([2, 4, 5, 6, 7, 8], [2, 4, 5, 6, 7, 8]), ([1, 9], [1, 9]), ([10], [10]), ([11, 9, 0, 1, 2, 3, 4, 5, 6, 7, 8, 9, 10, 11], [11])])
def spec_l10Value.B13 : List Nat := [0, 1, 0, 0, 8, 0, 0, 0, 0, 508, 1023, 2047, 4095]
theorem spec_l10Value.tab13 : rtab .any (opsOf Try.f71 13) = spec_l10Value.T13 := by kernel_rfl
theorem spec_l10Value.bits13 : waitsOk spec_l10Value.T13.2 spec_l10Value.B13 = true := by kernel_rfl
def spec_l10Value.T15 : Bool × List (List Nat × List Nat) := (true, [([], []), ([], []), ([], []), ([1, 2], [1, 2]), ([], []), ([], []), ([], []), ([], []), ([0, 3, 4, 5, 6, 7], [0, 3, 4, 5, 6, 7]), ([8, 8, 0, 1, 2, 3, 4, 5, 6, 7, 8], [8])])
def spec_l10Value.B15 : List Nat := [0, 0, 0, 6, 0, 0, 0, 0, 255, 511]
theorem spec_l10Value.tab15 : rtab .any (opsOf Try.f71 15) = spec_l10Value.T15 := by kernel_rfl
theorem spec_l10Value.bits15 : waitsOk spec_l10Value.T15.2 spec_l10Value.B15 = true := by kernel_rfl
def spec_l10Value.T16 : Bool × List (List Nat × List Nat) := (true, [([], []), ([], []), ([], []), ([2], [2]), ([], []), ([4], [4]), ([5], [5]), ([1, 3, 6], [1, 3, 6]), ([], []), ([], []), ([], []), ([], []), ([0, 7, 8, 9, 10, 11], [0, 7, 8, 9, 10, 11]), ([12, 12, 0, 1, 2, 3, 4, 5, 6, 7, 8, 9, 10, 11, 12], [12])])
def spec_l10Value.B16 : List Nat := [0, 0, 0, 4, 0, 16, 48, 126, 0, 0, 0, 0, 4095, 8191]
theorem spec_l10Value.tab16 : rtab .any (opsOf Try.f71 16) = spec_l10Value.T16 := by kernel_rfl
theorem spec_l10Value.bits16 : waitsOk spec_l10Value.T16.2 spec_l10Value.B16 = true := by kernel_rfl
set_option maxHeartbeats 8000000 in
set_option maxRecDepth 100000 in
theorem spec_l10Value.calls (k : Nat) : ∀ (A0_0 : Option Addr) (c0_0 : Nat) (l0_0 : List (List Int)) (A0_1 : Option Addr) (c0_1 : Nat) (l0_1 : List Int) (a1 : ByteArray) (a2 : Int) (a3 : Int) (a4 : Int) (a5 : Int) (r : Int) (w : World) (hr0_0 : Kd.C (Kd.slice 3 (Kd.int .i64)) w A0_0 l0_0.length l0_0) (hc0_0 : l0_0.length ≤ c0_0) (hr0_1 : Kd.C (Kd.int .i64) w A0_1 l0_1.length l0_1) (hc0_1 : l0_1.length ≤ c0_1) (h : spec_l10Value.f k l0_0 l0_1 a1 a2 a3 a4 a5 = some r),
  Calls Try.prog 71 #[.agg #[.slice A0_0 l0_0.length c0_0, .slice A0_1 l0_1.length c0_1], .string a1, .int .i64 a2, .int .i64 a3, .int .i64 a4, .int .i64 a5] w fun e w' => e = .returned (.int .i64 r) ∧ Below w.heap.size w w' := by
 induction k using Nat.strongRecOn with
 | _ k ih =>
 intro A0_0 c0_0 l0_0 A0_1 c0_1 l0_1 a1 a2 a3 a4 a5 r w hr0_0 hc0_0 hr0_1 hc0_1 h
 cases k with
 | zero => exact absurd h (by simp [spec_l10Value.f])
 | succ k =>
 simp only [spec_l10Value.f] at h
 have hu28 := Try.underlying28
 have HR0_0 := Aside0.mk hr0_0
 have HC0_0 := Aside0.mk hc0_0
 clear hr0_0 hc0_0
 have HR0_1 := Aside0.mk hr0_1
 have HC0_1 := Aside0.mk hc0_1
 clear hr0_1 hc0_1
 have HB := Aside0.mk (Below.refl w.heap.size w)
 have H : (if 0 < (a1.size : Int) then (if (bt a1 0) = 97 then (some a2) else (if (bt a1 0) = 98 then (some a3) else (if (bt a1 0) = 99 then (some a4) else (if (bt a1 0) = 48 then (some a5) else (if (bt a1 0) = 49 then (if 0 ≤ a5 then (if a5 < (l0_1.length : Int) then (some (rd l0_1 a5)) else (none)) else (none)) else (if (bt a1 0) = 33 then (if 1 ≤ (a1.size : Int) then ((spec_l10Value.f k l0_0 l0_1 (a1.extract 1 a1.size) a2 a3 a4 a5).bind fun t411 => (if 0 ≤ t411 then (if t411 < (l0_1.length : Int) then (some (rd l0_1 t411)) else (none)) else (none))) else (none)) else ((spec_l10End.f k a1 1).bind fun t413 => (if 1 ≤ t413 then (if t413 ≤ (a1.size : Int) then ((spec_l10Value.f k l0_0 l0_1 (a1.extract 1 (t413 : Int).toNat) a2 a3 a4 a5).bind fun t414 => (if 0 ≤ (wrap64 (t413 + 1)) then (if (wrap64 (t413 + 1)) ≤ (wrap64 ((a1.size : Int) - 1)) then (if (wrap64 ((a1.size : Int) - 1)) ≤ (a1.size : Int) then ((spec_l10Value.f k l0_0 l0_1 (a1.extract ((wrap64 (t413 + 1)) : Int).toNat ((wrap64 ((a1.size : Int) - 1)) : Int).toNat) a2 a3 a4 a5).bind fun t415 => (if 0 ≤ t413 then (if t413 < (a1.size : Int) then (if (bt a1 t413) = 38 then ((spec_l1Meet.f k l0_0 t414 t415).bind fun t416 => (some t416)) else ((spec_l1Join.f k l0_0 t414 t415).bind fun t417 => (some t417))) else (none)) else (none))) else (none)) else (none)) else (none))) else (none)) else (none))))))))) else (none)) = some r := h
 clear h
 by_cases c7 : 0 < (a1.size : Int)
 ·rw [if_pos c7] at H
  have c7b0 : decide (0 < (a1.size : Int)) = true := decide_eq_true c7
  have c7b1 : decide (0 < a1.size) = true := decide_eq_true (by omega)
  clear c7
  by_cases c9 : (bt a1 0) = 97
  ·rw [if_pos c9] at H
   have c9b0 : ((bt a1 0) == 97) = true := beq_iff_eq.mpr c9
   have c9b1 : ((bt a1 0) != 97) = false := bne_eq_false_iff_eq.mpr c9
   clear c9
   obtain rfl := Option.some.inj H
   go_enter Try.func71, Try.ntmps71
   go_wp2_with (first | ((with_reducible refine gate_dst (N := 6) rfl ?_); refine box_event ?hg (N := 6) ?hd (cs := #[.slice A0_0 l0_0.length c0_0, .slice A0_1 l0_1.length c0_1]) (t := 28) ?hr ?_; (case hd => rfl); (case hg => rfl); (case hr => first | (go_simp; done) | (go_simp; rfl)); intro gb409 hg w10 hbox hb; have n0_ := Aside0.mk (below_step (by repeat (first | (with_reducible first | exact HB.out | apply below_alloc | apply pw_below_drewN | apply below_drew1) | exact HB.out)) hb); have n1_ := Aside0.mk (hbox); have n2_ := Aside0.mk ((by rw [hg]; exact (below_size (by repeat (first | (with_reducible first | exact HB.out | apply below_alloc | apply pw_below_drewN | apply below_drew1) | exact HB.out))) : w.heap.size ≤ gb409)); have n3_ := Aside0.mk ((by rw [hg]; exact (below_size (by repeat (first | (with_reducible first | exact HB.out | apply below_alloc | apply pw_below_drewN | apply below_drew1) | exact HB.out))) : w.heap.size ≤ gb409)); clear HB; have HB := n0_; have BK409 := n1_; have GW409 := n2_; have GE409 := n3_; clear n0_ n1_ n2_ n3_; clear hb hbox hg; have p8 : 0 ≤ (0 : Int) := (by omega); have q8 : 0 < a1.size := (by have : (0 : Int) < (a1.size : Int) := of_decide_eq_true (by first | (with_reducible assumption) | assumption); omega); have hx8 : ∀ h : 0 < a1.size, ((a1[0]'h).toNat : Int) = bt a1 0 := bt_at a1 0; clear p8; have qi8 : (0 < (a1.size : Int)) = True := eq_true (of_decide_eq_true (by first | (with_reducible assumption) | assumption)); replace q8 := eq_true q8))
   go_ret
   exact ⟨by first | rfl | (simp [errW_none, errW_some] <;> rfl) | (simp [*, errW_none, errW_some] <;> rfl), by repeat (first | (with_reducible first | exact HB.out | apply below_alloc | apply pw_below_drewN | apply below_drew1 | refine below_set ?_ GE409.out) | exact HB.out)⟩
  ·rw [if_neg c9] at H
   have c9b0 : ((bt a1 0) == 97) = false := beq_eq_false_iff_ne.mpr c9
   have c9b1 : ((bt a1 0) != 97) = true := bne_iff_ne.mpr c9
   by_cases c11 : (bt a1 0) = 98
   ·rw [if_pos c11] at H
    have c11b0 : ((bt a1 0) == 98) = true := beq_iff_eq.mpr c11
    have c11b1 : ((bt a1 0) != 98) = false := bne_eq_false_iff_eq.mpr c11
    clear c11
    obtain rfl := Option.some.inj H
    go_enter Try.func71, Try.ntmps71
    go_wp2_with (first | ((with_reducible refine gate_dst (N := 6) rfl ?_); refine box_event ?hg (N := 6) ?hd (cs := #[.slice A0_0 l0_0.length c0_0, .slice A0_1 l0_1.length c0_1]) (t := 28) ?hr ?_; (case hd => rfl); (case hg => rfl); (case hr => first | (go_simp; done) | (go_simp; rfl)); intro gb409 hg w12 hbox hb; have n0_ := Aside0.mk (below_step (by repeat (first | (with_reducible first | exact HB.out | apply below_alloc | apply pw_below_drewN | apply below_drew1) | exact HB.out)) hb); have n1_ := Aside0.mk (hbox); have n2_ := Aside0.mk ((by rw [hg]; exact (below_size (by repeat (first | (with_reducible first | exact HB.out | apply below_alloc | apply pw_below_drewN | apply below_drew1) | exact HB.out))) : w.heap.size ≤ gb409)); have n3_ := Aside0.mk ((by rw [hg]; exact (below_size (by repeat (first | (with_reducible first | exact HB.out | apply below_alloc | apply pw_below_drewN | apply below_drew1) | exact HB.out))) : w.heap.size ≤ gb409)); clear HB; have HB := n0_; have BK409 := n1_; have GW409 := n2_; have GE409 := n3_; clear n0_ n1_ n2_ n3_; clear hb hbox hg; have p8 : 0 ≤ (0 : Int) := (by omega); have q8 : 0 < a1.size := (by have : (0 : Int) < (a1.size : Int) := of_decide_eq_true (by first | (with_reducible assumption) | assumption); omega); have hx8 : ∀ h : 0 < a1.size, ((a1[0]'h).toNat : Int) = bt a1 0 := bt_at a1 0; clear p8; have qi8 : (0 < (a1.size : Int)) = True := eq_true (of_decide_eq_true (by first | (with_reducible assumption) | assumption)); replace q8 := eq_true q8))
    go_ret
    exact ⟨by first | rfl | (simp [errW_none, errW_some] <;> rfl) | (simp [*, errW_none, errW_some] <;> rfl), by repeat (first | (with_reducible first | exact HB.out | apply below_alloc | apply pw_below_drewN | apply below_drew1 | refine below_set ?_ GE409.out) | exact HB.out)⟩
   ·rw [if_neg c11] at H
    have c11b0 : ((bt a1 0) == 98) = false := beq_eq_false_iff_ne.mpr c11
    have c11b1 : ((bt a1 0) != 98) = true := bne_iff_ne.mpr c11
    by_cases c13 : (bt a1 0) = 99
    ·rw [if_pos c13] at H
     have c13b0 : ((bt a1 0) == 99) = true := beq_iff_eq.mpr c13
     have c13b1 : ((bt a1 0) != 99) = false := bne_eq_false_iff_eq.mpr c13
     clear c13
     obtain rfl := Option.some.inj H
     go_enter Try.func71, Try.ntmps71
     go_wp2_with (first | ((with_reducible refine gate_dst (N := 6) rfl ?_); refine box_event ?hg (N := 6) ?hd (cs := #[.slice A0_0 l0_0.length c0_0, .slice A0_1 l0_1.length c0_1]) (t := 28) ?hr ?_; (case hd => rfl); (case hg => rfl); (case hr => first | (go_simp; done) | (go_simp; rfl)); intro gb409 hg w14 hbox hb; have n0_ := Aside0.mk (below_step (by repeat (first | (with_reducible first | exact HB.out | apply below_alloc | apply pw_below_drewN | apply below_drew1) | exact HB.out)) hb); have n1_ := Aside0.mk (hbox); have n2_ := Aside0.mk ((by rw [hg]; exact (below_size (by repeat (first | (with_reducible first | exact HB.out | apply below_alloc | apply pw_below_drewN | apply below_drew1) | exact HB.out))) : w.heap.size ≤ gb409)); have n3_ := Aside0.mk ((by rw [hg]; exact (below_size (by repeat (first | (with_reducible first | exact HB.out | apply below_alloc | apply pw_below_drewN | apply below_drew1) | exact HB.out))) : w.heap.size ≤ gb409)); clear HB; have HB := n0_; have BK409 := n1_; have GW409 := n2_; have GE409 := n3_; clear n0_ n1_ n2_ n3_; clear hb hbox hg; have p8 : 0 ≤ (0 : Int) := (by omega); have q8 : 0 < a1.size := (by have : (0 : Int) < (a1.size : Int) := of_decide_eq_true (by first | (with_reducible assumption) | assumption); omega); have hx8 : ∀ h : 0 < a1.size, ((a1[0]'h).toNat : Int) = bt a1 0 := bt_at a1 0; clear p8; have qi8 : (0 < (a1.size : Int)) = True := eq_true (of_decide_eq_true (by first | (with_reducible assumption) | assumption)); replace q8 := eq_true q8))
     go_ret
     exact ⟨by first | rfl | (simp [errW_none, errW_some] <;> rfl) | (simp [*, errW_none, errW_some] <;> rfl), by repeat (first | (with_reducible first | exact HB.out | apply below_alloc | apply pw_below_drewN | apply below_drew1 | refine below_set ?_ GE409.out) | exact HB.out)⟩
    ·rw [if_neg c13] at H
     have c13b0 : ((bt a1 0) == 99) = false := beq_eq_false_iff_ne.mpr c13
     have c13b1 : ((bt a1 0) != 99) = true := bne_iff_ne.mpr c13
     by_cases c15 : (bt a1 0) = 48
     ·rw [if_pos c15] at H
      have c15b0 : ((bt a1 0) == 48) = true := beq_iff_eq.mpr c15
      have c15b1 : ((bt a1 0) != 48) = false := bne_eq_false_iff_eq.mpr c15
      clear c15
      obtain rfl := Option.some.inj H
      go_enter Try.func71, Try.ntmps71
      go_wp2_with (first | ((with_reducible refine gate_dst (N := 6) rfl ?_); refine box_event ?hg (N := 6) ?hd (cs := #[.slice A0_0 l0_0.length c0_0, .slice A0_1 l0_1.length c0_1]) (t := 28) ?hr ?_; (case hd => rfl); (case hg => rfl); (case hr => first | (go_simp; done) | (go_simp; rfl)); intro gb409 hg w16 hbox hb; have n0_ := Aside0.mk (below_step (by repeat (first | (with_reducible first | exact HB.out | apply below_alloc | apply pw_below_drewN | apply below_drew1) | exact HB.out)) hb); have n1_ := Aside0.mk (hbox); have n2_ := Aside0.mk ((by rw [hg]; exact (below_size (by repeat (first | (with_reducible first | exact HB.out | apply below_alloc | apply pw_below_drewN | apply below_drew1) | exact HB.out))) : w.heap.size ≤ gb409)); have n3_ := Aside0.mk ((by rw [hg]; exact (below_size (by repeat (first | (with_reducible first | exact HB.out | apply below_alloc | apply pw_below_drewN | apply below_drew1) | exact HB.out))) : w.heap.size ≤ gb409)); clear HB; have HB := n0_; have BK409 := n1_; have GW409 := n2_; have GE409 := n3_; clear n0_ n1_ n2_ n3_; clear hb hbox hg; have p8 : 0 ≤ (0 : Int) := (by omega); have q8 : 0 < a1.size := (by have : (0 : Int) < (a1.size : Int) := of_decide_eq_true (by first | (with_reducible assumption) | assumption); omega); have hx8 : ∀ h : 0 < a1.size, ((a1[0]'h).toNat : Int) = bt a1 0 := bt_at a1 0; clear p8; have qi8 : (0 < (a1.size : Int)) = True := eq_true (of_decide_eq_true (by first | (with_reducible assumption) | assumption)); replace q8 := eq_true q8))
      go_ret
      exact ⟨by first | rfl | (simp [errW_none, errW_some] <;> rfl) | (simp [*, errW_none, errW_some] <;> rfl), by repeat (first | (with_reducible first | exact HB.out | apply below_alloc | apply pw_below_drewN | apply below_drew1 | refine below_set ?_ GE409.out) | exact HB.out)⟩
     ·rw [if_neg c15] at H
      have c15b0 : ((bt a1 0) == 48) = false := beq_eq_false_iff_ne.mpr c15
      have c15b1 : ((bt a1 0) != 48) = true := bne_iff_ne.mpr c15
      by_cases c17 : (bt a1 0) = 49
      ·rw [if_pos c17] at H
       have c17b0 : ((bt a1 0) == 49) = true := beq_iff_eq.mpr c17
       have c17b1 : ((bt a1 0) != 49) = false := bne_eq_false_iff_eq.mpr c17
       clear c17
       by_cases c18 : 0 ≤ a5
       ·rw [if_pos c18] at H
        have c18b0 : decide (0 ≤ a5) = true := decide_eq_true c18
        clear c18
        by_cases c19 : a5 < (l0_1.length : Int)
        ·rw [if_pos c19] at H
         have c19b0 : decide (a5 < (l0_1.length : Int)) = true := decide_eq_true c19
         clear c19
         obtain rfl := Option.some.inj H
         go_enter Try.func71, Try.ntmps71
         go_wp2_with (first | ((with_reducible refine gate_dst (N := 6) rfl ?_); refine box_event ?hg (N := 6) ?hd (cs := #[.slice A0_0 l0_0.length c0_0, .slice A0_1 l0_1.length c0_1]) (t := 28) ?hr ?_; (case hd => rfl); (case hg => rfl); (case hr => first | (go_simp; done) | (go_simp; rfl)); intro gb409 hg w20 hbox hb; have n0_ := Aside0.mk (below_step (by repeat (first | (with_reducible first | exact HB.out | apply below_alloc | apply pw_below_drewN | apply below_drew1) | exact HB.out)) hb); have n1_ := Aside0.mk (hbox); have n2_ := Aside0.mk ((by rw [hg]; exact (below_size (by repeat (first | (with_reducible first | exact HB.out | apply below_alloc | apply pw_below_drewN | apply below_drew1) | exact HB.out))) : w.heap.size ≤ gb409)); have n3_ := Aside0.mk ((by rw [hg]; exact (below_size (by repeat (first | (with_reducible first | exact HB.out | apply below_alloc | apply pw_below_drewN | apply below_drew1) | exact HB.out))) : w.heap.size ≤ gb409)); clear HB; have HB := n0_; have BK409 := n1_; have GW409 := n2_; have GE409 := n3_; clear n0_ n1_ n2_ n3_; clear hb hbox hg; have p8 : 0 ≤ (0 : Int) := (by omega); have q8 : 0 < a1.size := (by have : (0 : Int) < (a1.size : Int) := of_decide_eq_true (by first | (with_reducible assumption) | assumption); omega); have hx8 : ∀ h : 0 < a1.size, ((a1[0]'h).toNat : Int) = bt a1 0 := bt_at a1 0; clear p8; have qi8 : (0 < (a1.size : Int)) = True := eq_true (of_decide_eq_true (by first | (with_reducible assumption) | assumption)); replace q8 := eq_true q8; have hcz21_0 : w20.cell? ⟨gb409, 0, none⟩ = some (.slice A0_0 l0_0.length c0_0) := (blk_cell BK409.out 0).trans rfl; have hcz21_1 : w20.cell? ⟨gb409, 1, none⟩ = some (.slice A0_1 l0_1.length c0_1) := (blk_cell BK409.out 1).trans rfl; have hfz21_0 := blk_frozen BK409.out 0; have hfz21_1 := blk_frozen BK409.out 1; have p410 : 0 ≤ (a5 : Int) := of_decide_eq_true (by first | (with_reducible assumption) | assumption); have q410 : a5 < (l0_1.length : Int) := of_decide_eq_true (by first | (with_reducible assumption) | assumption); obtain ⟨ad410, e410, hx410_0⟩ := Kd.at_int HR0_1.out a5 p410 q410; cases e410; replace hx410_0 := (HB.out.cell (World.block_lt_of_cell? w _ hx410_0)).trans hx410_0; replace p410 := eq_true p410; replace q410 := eq_true q410))
         go_ret
         exact ⟨by first | rfl | (simp [errW_none, errW_some] <;> rfl) | (simp [*, errW_none, errW_some] <;> rfl), by repeat (first | (with_reducible first | exact HB.out | apply below_alloc | apply pw_below_drewN | apply below_drew1 | refine below_set ?_ GE409.out) | exact HB.out)⟩
        ·rw [if_neg c19] at H
         exact absurd H (by simp)
       ·rw [if_neg c18] at H
        exact absurd H (by simp)
      ·rw [if_neg c17] at H
       have c17b0 : ((bt a1 0) == 49) = false := beq_eq_false_iff_ne.mpr c17
       have c17b1 : ((bt a1 0) != 49) = true := bne_iff_ne.mpr c17
       by_cases c22 : (bt a1 0) = 33
       ·rw [if_pos c22] at H
        have c22b0 : ((bt a1 0) == 33) = true := beq_iff_eq.mpr c22
        have c22b1 : ((bt a1 0) != 33) = false := bne_eq_false_iff_eq.mpr c22
        clear c22
        by_cases c23 : 1 ≤ (a1.size : Int)
        ·rw [if_pos c23] at H
         have c23b0 := eq_true c23
         have c23b1 : decide (1 ≤ (a1.size : Int)) = true := decide_eq_true c23
         clear c23
         replace H := Option.bind_eq_some_iff.mp H
         obtain ⟨t411, A240, H⟩ := H
         replace H : (if 0 ≤ t411 then (if t411 < (l0_1.length : Int) then (some (rd l0_1 t411)) else (none)) else (none)) = some r := H
         have A24 := Aside0.mk A240
         clear A240
         by_cases c25 : 0 ≤ t411
         ·rw [if_pos c25] at H
          have c25b0 : decide (0 ≤ t411) = true := decide_eq_true c25
          clear c25
          by_cases c26 : t411 < (l0_1.length : Int)
          ·rw [if_pos c26] at H
           have c26b0 : decide (t411 < (l0_1.length : Int)) = true := decide_eq_true c26
           clear c26
           obtain rfl := Option.some.inj H
           go_enter Try.func71, Try.ntmps71
           try go_wp2_with (first | ((with_reducible refine gate_dst (N := 6) rfl ?_); refine box_event ?hg (N := 6) ?hd (cs := #[.slice A0_0 l0_0.length c0_0, .slice A0_1 l0_1.length c0_1]) (t := 28) ?hr ?_; (case hd => rfl); (case hg => rfl); (case hr => first | (go_simp; done) | (go_simp; rfl)); intro gb409 hg w27 hbox hb; have n0_ := Aside0.mk (below_step (by repeat (first | (with_reducible first | exact HB.out | apply below_alloc | apply pw_below_drewN | apply below_drew1) | exact HB.out)) hb); have n1_ := Aside0.mk (hbox); have n2_ := Aside0.mk ((by rw [hg]; exact (below_size (by repeat (first | (with_reducible first | exact HB.out | apply below_alloc | apply pw_below_drewN | apply below_drew1) | exact HB.out))) : w.heap.size ≤ gb409)); have n3_ := Aside0.mk ((by rw [hg]; exact (below_size (by repeat (first | (with_reducible first | exact HB.out | apply below_alloc | apply pw_below_drewN | apply below_drew1) | exact HB.out))) : w.heap.size ≤ gb409)); clear HB; have HB := n0_; have BK409 := n1_; have GW409 := n2_; have GE409 := n3_; clear n0_ n1_ n2_ n3_; clear hb hbox hg; have p8 : 0 ≤ (0 : Int) := (by omega); have q8 : 0 < a1.size := (by have : (0 : Int) < (a1.size : Int) := of_decide_eq_true (by first | (with_reducible assumption) | assumption); omega); have hx8 : ∀ h : 0 < a1.size, ((a1[0]'h).toNat : Int) = bt a1 0 := bt_at a1 0; clear p8; have qi8 : (0 < (a1.size : Int)) = True := eq_true (of_decide_eq_true (by first | (with_reducible assumption) | assumption)); replace q8 := eq_true q8))
           have n0_ := Aside0.mk (blk_drew BK409.out)
           have n1_ := Aside0.mk (below_drew1 HB.out)
           clear BK409
           clear HB
           have BK409 := n0_
           have HB := n1_
           clear n0_ n1_
           have p412 : 0 ≤ (t411 : Int) := of_decide_eq_true (by first | (with_reducible assumption) | assumption)
           have q412 : t411 < (l0_1.length : Int) := of_decide_eq_true (by first | (with_reducible assumption) | assumption)
           obtain ⟨ad412, e412, hx412_0⟩ := Kd.at_int HR0_1.out t411 p412 q412
           have hw412_0 := hx412_0
           cases e412
           replace hx412_0 := (HB.out.cell (World.block_lt_of_cell? w _ hx412_0)).trans hx412_0
           replace p412 := eq_true p412
           replace q412 := eq_true q412
           refine start_ (n := 13) (S := fun w' => w'.cell? ⟨gb409, 0, none⟩ = some (.slice A0_0 l0_0.length c0_0) ∧ w'.cell? ⟨gb409, 1, none⟩ = some (.slice (some ad412) l0_1.length c0_1) ∧ w'.cell? (ad412.add (t411).toNat) = some (.int .i64 (rd l0_1 t411))) (ds := []) #[false, false, false, false, false, false, false, false, false, false, false, false, false] (by kernel_rfl) rfl rfl ⟨(blk_cell BK409.out 0).trans rfl, (blk_cell BK409.out 1).trans rfl, ((HB.out.cell (World.block_lt_of_cell? w _ hw412_0)).trans hw412_0)⟩ (fun hHeld => ?_); refine with_tabW spec_l10Value.tab13 spec_l10Value.bits13 (fun HT_ HW_ => ?_)
           generalize w27.drew = w28 at BK409 HB hx412_0 hHeld ⊢
           refine pure_ (i := 0) (N := some 39) (v := ?_) (a' := ?_) #[true, false, false, false, false, false, false, false, false, false, false, false, false] rfl rfl (any_of HT_.out (by kernel_rfl)) (fun _ _ _ h => h) (Or.inl ⟨by rfl, ?_⟩) ?_ ?_
           rotate_left
           ·intro w'
            go_simp
            with_reducible rfl
           rotate_left
           ·simp only [Act.put, List.setIfInBounds_toArray, List.set_cons_zero, List.set_cons_succ, i64_w, i32_w]
            rfl
           refine pure_ (i := 3) (N := some 42) (v := ?_) (a' := ?_) #[true, false, false, true, false, false, false, false, false, false, false, false, false] rfl rfl (any_of HT_.out (by kernel_rfl)) (fun _ _ _ h => h) (Or.inl ⟨by rfl, ?_⟩) ?_ ?_
           rotate_left
           ·intro w'
            go_simp
            with_reducible rfl
           rotate_left
           ·simp only [Act.put, List.setIfInBounds_toArray, List.set_cons_zero, List.set_cons_succ, i64_w, i32_w]
            rfl
           refine pure_ (i := 4) (N := some 43) (v := ?_) (a' := ?_) #[true, false, false, true, true, false, false, false, false, false, false, false, false] rfl rfl (any_of HT_.out (by kernel_rfl)) (fun _ _ _ h => h) (Or.inl ⟨by rfl, ?_⟩) ?_ ?_
           rotate_left
           ·intro w'
            go_simp
            with_reducible rfl
           rotate_left
           ·simp only [Act.put, List.setIfInBounds_toArray, List.set_cons_zero, List.set_cons_succ, i64_w, i32_w]
            rfl
           refine pure_ (i := 5) (N := some 44) (v := ?_) (a' := ?_) #[true, false, false, true, true, true, false, false, false, false, false, false, false] rfl rfl (any_of HT_.out (by kernel_rfl)) (fun _ _ _ h => h) (Or.inl ⟨by rfl, ?_⟩) ?_ ?_
           rotate_left
           ·intro w'
            go_simp
            with_reducible rfl
           rotate_left
           ·simp only [Act.put, List.setIfInBounds_toArray, List.set_cons_zero, List.set_cons_succ, i64_w, i32_w]
            rfl
           refine pure_ (i := 6) (N := some 45) (v := ?_) (a' := ?_) #[true, false, false, true, true, true, true, false, false, false, false, false, false] rfl rfl (any_of HT_.out (by kernel_rfl)) (fun _ _ _ h => h) (Or.inl ⟨by rfl, ?_⟩) ?_ ?_
           rotate_left
           ·intro w'
            go_simp
            with_reducible rfl
           rotate_left
           ·simp only [Act.put, List.setIfInBounds_toArray, List.set_cons_zero, List.set_cons_succ, i64_w, i32_w]
            rfl
           refine pure_ (i := 7) (N := some 46) (v := ?_) (a' := ?_) #[true, false, false, true, true, true, true, true, false, false, false, false, false] rfl rfl (any_of HT_.out (by kernel_rfl)) (fun _ _ _ h => h) (Or.inl ⟨by rfl, ?_⟩) ?_ ?_
           rotate_left
           ·intro w'
            go_simp
            with_reducible rfl
           rotate_left
           ·simp only [Act.put, List.setIfInBounds_toArray, List.set_cons_zero, List.set_cons_succ, i64_w, i32_w]
            rfl
           refine pure_ (i := 8) (N := some 47) (v := ?_) (a' := ?_) #[true, false, false, true, true, true, true, true, true, false, false, false, false] rfl rfl (any_of HT_.out (by kernel_rfl)) (fun _ _ _ h => h) (Or.inl ⟨by rfl, ?_⟩) ?_ ?_
           rotate_left
           ·intro w'
            go_simp
            with_reducible rfl
           rotate_left
           ·simp only [Act.put, List.setIfInBounds_toArray, List.set_cons_zero, List.set_cons_succ, i64_w, i32_w]
            rfl
           refine take_ (i := 1) (N := some 40) (v := ?_) (a' := ?_) #[true, true, false, true, true, true, true, true, true, false, false, false, false] rfl rfl (take_ofW HT_.out HW_.out (by kernel_rfl)) (fun _ _ _ h => h) (Or.inl ⟨by rfl, ?_⟩) hHeld ?_ ?_
           rotate_left
           ·rintro w' ⟨s0, s1, s2⟩
            go_simp
            with_reducible rfl
           rotate_left
           ·simp only [Act.put, List.setIfInBounds_toArray, List.set_cons_zero, List.set_cons_succ, i64_w, i32_w]
            rfl
           refine take_ (i := 2) (N := some 41) (v := ?_) (a' := ?_) #[true, true, true, true, true, true, true, true, true, false, false, false, false] rfl rfl (take_ofW HT_.out HW_.out (by kernel_rfl)) (fun _ _ _ h => h) (Or.inl ⟨by rfl, ?_⟩) hHeld ?_ ?_
           rotate_left
           ·rintro w' ⟨s0, s1, s2⟩
            go_simp
            with_reducible rfl
           rotate_left
           ·simp only [Act.put, List.setIfInBounds_toArray, List.set_cons_zero, List.set_cons_succ, i64_w, i32_w]
            rfl
           refine one_ (i := 9) (N := some 48) #[true, true, true, true, true, true, true, true, true, true, false, false, false] rfl rfl (one_of HT_.out (by kernel_rfl)) (by decide) (fun K hK => ?_)
           refine goes_ Try.func71 (by kernel_rfl) rfl #[.agg #[.slice A0_0 l0_0.length c0_0, .slice (some ad412) l0_1.length c0_1], .string (a1.extract 1 a1.size), .int .i64 a2, .int .i64 a3, .int .i64 a4, .int .i64 a5] (by rfl) rfl rfl (by (try simp only [List.map_toArray, List.map_cons, List.map_nil]); first | done | rfl | (simp only [List.length_drop, List.length_take]; rfl)) ?_
           with_reducible refine (ih k (by omega) _ _ l0_0 _ _ l0_1 (a1.extract 1 a1.size) a2 a3 a4 a5 t411 _ ?side1 ?side2 ?side3 ?side4 A24.out).mono ?_
           (case side1 => repeat (first | exact (Kd.C_below HR0_0.out HB.out) | (with_reducible refine Kd.C_alloc ?_ _) | (with_reducible refine Kd.C_drewN ?_ _) | (with_reducible refine Kd.C_drew ?_)))
           (case side2 => exact HC0_0.out)
           (case side3 => repeat (first | exact (Kd.C_below HR0_1.out HB.out) | (with_reducible refine Kd.C_alloc ?_ _) | (with_reducible refine Kd.C_drewN ?_ _) | (with_reducible refine Kd.C_drew ?_)))
           (case side4 => exact HC0_1.out)
           rintro e w29 ⟨rfl, hb⟩
           refine ⟨_, rfl, ?_⟩
           have n0_ := Aside0.mk (blk_below (g := gb409) (o := .cells #[.slice A0_0 l0_0.length c0_0, .slice (some ad412) l0_1.length c0_1] 28 (0, 0)) (by (with_reducible repeat (first | refine blk_drewN ?_ _ | refine blk_drew ?_ | refine blk_alloc ?_ _)); exact BK409.out) hb)
           have n1_ := Aside0.mk (below_step (by repeat (first | (with_reducible first | exact HB.out | apply below_alloc | apply pw_below_drewN | apply below_drew1 | refine below_set ?_ GE409.out) | exact HB.out)) hb)
           clear BK409
           clear HB
           have BK409 := n0_
           have HB := n1_
           clear n0_ n1_
           (try clear hb)
           (try clear hb2)
           (try clear hk)
           (try clear hi)
           refine hK.out _ _ ⟨(blk_cell BK409.out 0).trans rfl, (blk_cell BK409.out 1).trans rfl, ((HB.out.cell (World.block_lt_of_cell? w _ hw412_0)).trans hw412_0)⟩ (fun hHeld => ?_)
           clear hK K
           refine norm_ (a' := ?_) ?_ ?_
           rotate_left
           ·show Act.put _ (some 48) _ = _
            simp only [Act.put, List.setIfInBounds_toArray, List.set_cons_zero, List.set_cons_succ, i64_w, i32_w]
            rfl
           refine pure_ (i := 10) (N := some 49) (v := ?_) (a' := ?_) #[true, true, true, true, true, true, true, true, true, true, true, false, false] rfl rfl (any_of HT_.out (by kernel_rfl)) (fun _ _ _ h => h) (Or.inl ⟨by rfl, ?_⟩) ?_ ?_
           rotate_left
           ·intro w'
            go_simp
            with_reducible rfl
           rotate_left
           ·simp only [Act.put, List.setIfInBounds_toArray, List.set_cons_zero, List.set_cons_succ, i64_w, i32_w]
            rfl
           refine take_ (i := 11) (N := some 50) (v := ?_) (a' := ?_) #[true, true, true, true, true, true, true, true, true, true, true, true, false] rfl rfl (take_ofW HT_.out HW_.out (by kernel_rfl)) (fun _ _ _ h => h) (Or.inl ⟨by rfl, ?_⟩) hHeld ?_ ?_
           rotate_left
           ·rintro w' ⟨s0, s1, s2⟩
            go_simp
            with_reducible rfl
           rotate_left
           ·simp only [Act.put, List.setIfInBounds_toArray, List.set_cons_zero, List.set_cons_succ, i64_w, i32_w]
            rfl
           refine pure_ (i := 12) (N := some 12) (v := ?_) (a' := ?_) #[true, true, true, true, true, true, true, true, true, true, true, true, true] rfl rfl (any_of HT_.out (by kernel_rfl)) (fun _ _ _ h => h) (Or.inl ⟨by rfl, ?_⟩) ?_ ?_
           rotate_left
           ·intro w'
            go_simp
            with_reducible rfl
           rotate_left
           ·simp only [Act.put, List.setIfInBounds_toArray, List.set_cons_zero, List.set_cons_succ, i64_w, i32_w]
            rfl
           refine done_ (done_of HT_.out (by kernel_rfl)) ?_
           try go_wp2
           go_ret
           exact ⟨by first | rfl | (simp [errW_none, errW_some] <;> rfl) | (simp [*, errW_none, errW_some] <;> rfl), by repeat (first | (with_reducible first | exact HB.out | apply below_alloc | apply pw_below_drewN | apply below_drew1 | refine below_set ?_ GE409.out) | exact HB.out)⟩
          ·rw [if_neg c26] at H
           exact absurd H (by simp)
         ·rw [if_neg c25] at H
          exact absurd H (by simp)
        ·rw [if_neg c23] at H
         exact absurd H (by simp)
       ·rw [if_neg c22] at H
        have c22b0 : ((bt a1 0) == 33) = false := beq_eq_false_iff_ne.mpr c22
        have c22b1 : ((bt a1 0) != 33) = true := bne_iff_ne.mpr c22
        replace H := Option.bind_eq_some_iff.mp H
        obtain ⟨t413, A300, H⟩ := H
        replace H : (if 1 ≤ t413 then (if t413 ≤ (a1.size : Int) then ((spec_l10Value.f k l0_0 l0_1 (a1.extract 1 (t413 : Int).toNat) a2 a3 a4 a5).bind fun t414 => (if 0 ≤ (wrap64 (t413 + 1)) then (if (wrap64 (t413 + 1)) ≤ (wrap64 ((a1.size : Int) - 1)) then (if (wrap64 ((a1.size : Int) - 1)) ≤ (a1.size : Int) then ((spec_l10Value.f k l0_0 l0_1 (a1.extract ((wrap64 (t413 + 1)) : Int).toNat ((wrap64 ((a1.size : Int) - 1)) : Int).toNat) a2 a3 a4 a5).bind fun t415 => (if 0 ≤ t413 then (if t413 < (a1.size : Int) then (if (bt a1 t413) = 38 then ((spec_l1Meet.f k l0_0 t414 t415).bind fun t416 => (some t416)) else ((spec_l1Join.f k l0_0 t414 t415).bind fun t417 => (some t417))) else (none)) else (none))) else (none)) else (none)) else (none))) else (none)) else (none)) = some r := H
        have A30 := Aside0.mk A300
        clear A300
        by_cases c31 : 1 ≤ t413
        ·rw [if_pos c31] at H
         have c31b0 := eq_true c31
         have c31b1 : decide (1 ≤ t413) = true := decide_eq_true c31
         clear c31
         by_cases c32 : t413 ≤ (a1.size : Int)
         ·rw [if_pos c32] at H
          have c32b0 := eq_true c32
          have c32b1 : decide (t413 ≤ (a1.size : Int)) = true := decide_eq_true c32
          clear c32
          replace H := Option.bind_eq_some_iff.mp H
          obtain ⟨t414, A330, H⟩ := H
          replace H : (if 0 ≤ (wrap64 (t413 + 1)) then (if (wrap64 (t413 + 1)) ≤ (wrap64 ((a1.size : Int) - 1)) then (if (wrap64 ((a1.size : Int) - 1)) ≤ (a1.size : Int) then ((spec_l10Value.f k l0_0 l0_1 (a1.extract ((wrap64 (t413 + 1)) : Int).toNat ((wrap64 ((a1.size : Int) - 1)) : Int).toNat) a2 a3 a4 a5).bind fun t415 => (if 0 ≤ t413 then (if t413 < (a1.size : Int) then (if (bt a1 t413) = 38 then ((spec_l1Meet.f k l0_0 t414 t415).bind fun t416 => (some t416)) else ((spec_l1Join.f k l0_0 t414 t415).bind fun t417 => (some t417))) else (none)) else (none))) else (none)) else (none)) else (none)) = some r := H
          have A33 := Aside0.mk A330
          clear A330
          obtain ⟨ji34, hji34⟩ : ∃ j_ : Int, (wrap64 (t413 + 1)) = j_ := ⟨_, rfl⟩
          replace H : (if 0 ≤ (ji34) then (if (ji34) ≤ (wrap64 ((a1.size : Int) - 1)) then (if (wrap64 ((a1.size : Int) - 1)) ≤ (a1.size : Int) then ((spec_l10Value.f k l0_0 l0_1 (a1.extract ((ji34) : Int).toNat ((wrap64 ((a1.size : Int) - 1)) : Int).toNat) a2 a3 a4 a5).bind fun t415 => (if 0 ≤ t413 then (if t413 < (a1.size : Int) then (if (bt a1 t413) = 38 then ((spec_l1Meet.f k l0_0 t414 t415).bind fun t416 => (some t416)) else ((spec_l1Join.f k l0_0 t414 t415).bind fun t417 => (some t417))) else (none)) else (none))) else (none)) else (none)) else (none)) = some r := by first | (rw [hji34] at H; exact H) | (simp only [hji34] at H ⊢; exact H)
          (try rw [hji34] at A30)
          (try rw [hji34] at A33)
          have hji34w : (IntKind.i64.wrap (t413 + 1)) = ji34 := (i64_w _).trans hji34
          by_cases c35 : 0 ≤ (ji34)
          ·rw [if_pos c35] at H
           have c35b0 := eq_true c35
           have c35b1 : decide (0 ≤ (ji34)) = true := decide_eq_true c35
           clear c35
           by_cases c36 : (ji34) ≤ (wrap64 ((a1.size : Int) - 1))
           ·rw [if_pos c36] at H
            have c36b0 := eq_true c36
            have c36b1 : decide ((ji34) ≤ (wrap64 ((a1.size : Int) - 1))) = true := decide_eq_true c36
            clear c36
            by_cases c37 : (wrap64 ((a1.size : Int) - 1)) ≤ (a1.size : Int)
            ·rw [if_pos c37] at H
             have c37b0 := eq_true c37
             have c37b1 : decide ((wrap64 ((a1.size : Int) - 1)) ≤ (a1.size : Int)) = true := decide_eq_true c37
             clear c37
             replace H := Option.bind_eq_some_iff.mp H
             obtain ⟨t415, A380, H⟩ := H
             replace H : (if 0 ≤ t413 then (if t413 < (a1.size : Int) then (if (bt a1 t413) = 38 then ((spec_l1Meet.f k l0_0 t414 t415).bind fun t416 => (some t416)) else ((spec_l1Join.f k l0_0 t414 t415).bind fun t417 => (some t417))) else (none)) else (none)) = some r := H
             have A38 := Aside0.mk A380
             clear A380
             by_cases c39 : 0 ≤ t413
             ·rw [if_pos c39] at H
              have c39b0 : decide (0 ≤ t413) = true := decide_eq_true c39
              clear c39
              by_cases c40 : t413 < (a1.size : Int)
              ·rw [if_pos c40] at H
               have c40b0 : decide (t413 < (a1.size : Int)) = true := decide_eq_true c40
               clear c40
               by_cases c42 : (bt a1 t413) = 38
               ·rw [if_pos c42] at H
                have c42b0 : ((bt a1 t413) == 38) = true := beq_iff_eq.mpr c42
                have c42b1 : ((bt a1 t413) != 38) = false := bne_eq_false_iff_eq.mpr c42
                clear c42
                replace H := Option.bind_eq_some_iff.mp H
                obtain ⟨t416, A430, H⟩ := H
                replace H : (some t416) = some r := H
                have A43 := Aside0.mk A430
                clear A430
                obtain rfl := Option.some.inj H
                go_enter Try.func71, Try.ntmps71
                try go_wp2_with (first | ((with_reducible refine gate_dst (N := 6) rfl ?_); refine box_event ?hg (N := 6) ?hd (cs := #[.slice A0_0 l0_0.length c0_0, .slice A0_1 l0_1.length c0_1]) (t := 28) ?hr ?_; (case hd => rfl); (case hg => rfl); (case hr => first | (go_simp; done) | (go_simp; rfl)); intro gb409 hg w44 hbox hb; have n0_ := Aside0.mk (below_step (by repeat (first | (with_reducible first | exact HB.out | apply below_alloc | apply pw_below_drewN | apply below_drew1) | exact HB.out)) hb); have n1_ := Aside0.mk (hbox); have n2_ := Aside0.mk ((by rw [hg]; exact (below_size (by repeat (first | (with_reducible first | exact HB.out | apply below_alloc | apply pw_below_drewN | apply below_drew1) | exact HB.out))) : w.heap.size ≤ gb409)); have n3_ := Aside0.mk ((by rw [hg]; exact (below_size (by repeat (first | (with_reducible first | exact HB.out | apply below_alloc | apply pw_below_drewN | apply below_drew1) | exact HB.out))) : w.heap.size ≤ gb409)); clear HB; have HB := n0_; have BK409 := n1_; have GW409 := n2_; have GE409 := n3_; clear n0_ n1_ n2_ n3_; clear hb hbox hg; have p8 : 0 ≤ (0 : Int) := (by omega); have q8 : 0 < a1.size := (by have : (0 : Int) < (a1.size : Int) := of_decide_eq_true (by first | (with_reducible assumption) | assumption); omega); have hx8 : ∀ h : 0 < a1.size, ((a1[0]'h).toNat : Int) = bt a1 0 := bt_at a1 0; clear p8; have qi8 : (0 < (a1.size : Int)) = True := eq_true (of_decide_eq_true (by first | (with_reducible assumption) | assumption)); replace q8 := eq_true q8) | ((with_reducible refine gate_callee (f := 110) rfl ?_); refine goesL_ (some 52) rfl rfl Try.func110 (by kernel_rfl) rfl #[.string a1, .int .i64 1] rfl (by (try simp only [List.map_toArray, List.map_cons, List.map_nil]); first | done | rfl | (simp only [List.length_drop, List.length_take]; rfl)) ?_; (with_reducible refine (spec_l10End.calls k a1 1 t413 _ A30.out).mono ?_); rintro e w' ⟨rfl, ⟨nd, rfl⟩⟩; refine ⟨_, rfl, ?_⟩))
                (try (rw [drewN_self w44]; generalize hq_ : World.drewN w44 _ = w44; have n0_ : Aside0 (w44.heap[gb409]? = some (.cells #[.slice A0_0 l0_0.length c0_0, .slice A0_1 l0_1.length c0_1] 28 (0, 0))) := ⟨by rw [← hq_]; exact (by (with_reducible repeat (first | refine blk_drewN ?_ _ | refine blk_drew ?_ | refine blk_alloc ?_ _)); exact BK409.out)⟩; have n1_ : Aside0 (Below w.heap.size w w44) := ⟨by rw [← hq_]; exact (by repeat (first | (with_reducible first | exact HB.out | apply below_alloc | apply pw_below_drewN | apply below_drew1 | refine below_set ?_ GE409.out) | exact HB.out))⟩; clear BK409 HB hq_; have BK409 := n0_; have HB := n1_; clear n0_ n1_))
                have n0_ := Aside0.mk (blk_drew BK409.out)
                have n1_ := Aside0.mk (below_drew1 HB.out)
                clear BK409
                clear HB
                have BK409 := n0_
                have HB := n1_
                clear n0_ n1_
                refine start_ (n := 10) (S := fun w' => w'.cell? ⟨gb409, 0, none⟩ = some (.slice A0_0 l0_0.length c0_0) ∧ w'.cell? ⟨gb409, 1, none⟩ = some (.slice A0_1 l0_1.length c0_1)) (ds := []) #[false, false, false, false, false, false, false, false, false, false] (by kernel_rfl) rfl rfl ⟨(blk_cell BK409.out 0).trans rfl, (blk_cell BK409.out 1).trans rfl⟩ (fun hHeld => ?_); refine with_tabW spec_l10Value.tab15 spec_l10Value.bits15 (fun HT_ HW_ => ?_)
                generalize w44.drew = w45 at BK409 HB hHeld ⊢
                refine pure_ (i := 1) (N := some 54) (v := ?_) (a' := ?_) #[false, true, false, false, false, false, false, false, false, false] rfl rfl (any_of HT_.out (by kernel_rfl)) (fun _ _ _ h => h) (Or.inl ⟨by rfl, ?_⟩) ?_ ?_
                rotate_left
                ·intro w'
                 go_simp
                 with_reducible rfl
                rotate_left
                ·simp only [Act.put, List.setIfInBounds_toArray, List.set_cons_zero, List.set_cons_succ, i64_w, i32_w]
                 rfl
                refine pure_ (i := 2) (N := some 55) (v := ?_) (a' := ?_) #[false, true, true, false, false, false, false, false, false, false] rfl rfl (any_of HT_.out (by kernel_rfl)) (fun _ _ _ h => h) (Or.inl ⟨by rfl, ?_⟩) ?_ ?_
                rotate_left
                ·intro w'
                 go_simp
                 with_reducible rfl
                rotate_left
                ·simp only [Act.put, List.setIfInBounds_toArray, List.set_cons_zero, List.set_cons_succ, i64_w, i32_w]
                 rfl
                refine pure_ (i := 3) (N := some 56) (v := ?_) (a' := ?_) #[false, true, true, true, false, false, false, false, false, false] rfl rfl (any_of HT_.out (by kernel_rfl)) (fun _ _ _ h => h) (Or.inl ⟨by rfl, ?_⟩) ?_ ?_
                rotate_left
                ·intro w'
                 go_simp
                 with_reducible rfl
                rotate_left
                ·simp only [Act.put, List.setIfInBounds_toArray, List.set_cons_zero, List.set_cons_succ, i64_w, i32_w]
                 rfl
                refine pure_ (i := 4) (N := some 57) (v := ?_) (a' := ?_) #[false, true, true, true, true, false, false, false, false, false] rfl rfl (any_of HT_.out (by kernel_rfl)) (fun _ _ _ h => h) (Or.inl ⟨by rfl, ?_⟩) ?_ ?_
                rotate_left
                ·intro w'
                 go_simp
                 with_reducible rfl
                rotate_left
                ·simp only [Act.put, List.setIfInBounds_toArray, List.set_cons_zero, List.set_cons_succ, i64_w, i32_w]
                 rfl
                refine pure_ (i := 5) (N := some 58) (v := ?_) (a' := ?_) #[false, true, true, true, true, true, false, false, false, false] rfl rfl (any_of HT_.out (by kernel_rfl)) (fun _ _ _ h => h) (Or.inl ⟨by rfl, ?_⟩) ?_ ?_
                rotate_left
                ·intro w'
                 go_simp
                 with_reducible rfl
                rotate_left
                ·simp only [Act.put, List.setIfInBounds_toArray, List.set_cons_zero, List.set_cons_succ, i64_w, i32_w]
                 rfl
                refine pure_ (i := 6) (N := some 59) (v := ?_) (a' := ?_) #[false, true, true, true, true, true, true, false, false, false] rfl rfl (any_of HT_.out (by kernel_rfl)) (fun _ _ _ h => h) (Or.inl ⟨by rfl, ?_⟩) ?_ ?_
                rotate_left
                ·intro w'
                 go_simp
                 with_reducible rfl
                rotate_left
                ·simp only [Act.put, List.setIfInBounds_toArray, List.set_cons_zero, List.set_cons_succ, i64_w, i32_w]
                 rfl
                refine pure_ (i := 7) (N := some 60) (v := ?_) (a' := ?_) #[false, true, true, true, true, true, true, true, false, false] rfl rfl (any_of HT_.out (by kernel_rfl)) (fun _ _ _ h => h) (Or.inl ⟨by rfl, ?_⟩) ?_ ?_
                rotate_left
                ·intro w'
                 go_simp
                 with_reducible rfl
                rotate_left
                ·simp only [Act.put, List.setIfInBounds_toArray, List.set_cons_zero, List.set_cons_succ, i64_w, i32_w]
                 rfl
                refine take_ (i := 0) (N := some 53) (v := ?_) (a' := ?_) #[true, true, true, true, true, true, true, true, false, false] rfl rfl (take_ofW HT_.out HW_.out (by kernel_rfl)) (fun _ _ _ h => h) (Or.inl ⟨by rfl, ?_⟩) hHeld ?_ ?_
                rotate_left
                ·rintro w' ⟨s0, s1⟩
                 go_simp
                 with_reducible rfl
                rotate_left
                ·simp only [Act.put, List.setIfInBounds_toArray, List.set_cons_zero, List.set_cons_succ, i64_w, i32_w]
                 rfl
                refine one_ (i := 8) (N := some 61) #[true, true, true, true, true, true, true, true, true, false] rfl rfl (one_of HT_.out (by kernel_rfl)) (by decide) (fun K hK => ?_)
                refine goes_ Try.func71 (by kernel_rfl) rfl #[.agg #[.slice A0_0 l0_0.length c0_0, .slice A0_1 l0_1.length c0_1], .string (a1.extract 1 (t413 : Int).toNat), .int .i64 a2, .int .i64 a3, .int .i64 a4, .int .i64 a5] (by rfl) rfl rfl (by (try simp only [List.map_toArray, List.map_cons, List.map_nil]); first | done | rfl | (simp only [List.length_drop, List.length_take]; rfl)) ?_
                with_reducible refine (ih k (by omega) _ _ l0_0 _ _ l0_1 (a1.extract 1 (t413 : Int).toNat) a2 a3 a4 a5 t414 _ ?side1 ?side2 ?side3 ?side4 A33.out).mono ?_
                (case side1 => repeat (first | exact (Kd.C_below HR0_0.out HB.out) | (with_reducible refine Kd.C_alloc ?_ _) | (with_reducible refine Kd.C_drewN ?_ _) | (with_reducible refine Kd.C_drew ?_)))
                (case side2 => exact HC0_0.out)
                (case side3 => repeat (first | exact (Kd.C_below HR0_1.out HB.out) | (with_reducible refine Kd.C_alloc ?_ _) | (with_reducible refine Kd.C_drewN ?_ _) | (with_reducible refine Kd.C_drew ?_)))
                (case side4 => exact HC0_1.out)
                rintro e w46 ⟨rfl, hb⟩
                refine ⟨_, rfl, ?_⟩
                have n0_ := Aside0.mk (blk_below (g := gb409) (o := .cells #[.slice A0_0 l0_0.length c0_0, .slice A0_1 l0_1.length c0_1] 28 (0, 0)) (by (with_reducible repeat (first | refine blk_drewN ?_ _ | refine blk_drew ?_ | refine blk_alloc ?_ _)); exact BK409.out) hb)
                have n1_ := Aside0.mk (below_step (by repeat (first | (with_reducible first | exact HB.out | apply below_alloc | apply pw_below_drewN | apply below_drew1 | refine below_set ?_ GE409.out) | exact HB.out)) hb)
                clear BK409
                clear HB
                have BK409 := n0_
                have HB := n1_
                clear n0_ n1_
                (try clear hb)
                (try clear hb2)
                (try clear hk)
                (try clear hi)
                refine hK.out _ _ ⟨(blk_cell BK409.out 0).trans rfl, (blk_cell BK409.out 1).trans rfl⟩ (fun hHeld => ?_)
                clear hK K
                refine norm_ (a' := ?_) ?_ ?_
                rotate_left
                ·show Act.put _ (some 61) _ = _
                 simp only [Act.put, List.setIfInBounds_toArray, List.set_cons_zero, List.set_cons_succ, i64_w, i32_w]
                 rfl
                refine pure_ (i := 9) (N := some 14) (v := ?_) (a' := ?_) #[true, true, true, true, true, true, true, true, true, true] rfl rfl (any_of HT_.out (by kernel_rfl)) (fun _ _ _ h => h) (Or.inl ⟨by rfl, ?_⟩) ?_ ?_
                rotate_left
                ·intro w'
                 go_simp
                 with_reducible rfl
                rotate_left
                ·simp only [Act.put, List.setIfInBounds_toArray, List.set_cons_zero, List.set_cons_succ, i64_w, i32_w]
                 rfl
                refine done_ (done_of HT_.out (by kernel_rfl)) ?_
                try go_wp2
                have n0_ := Aside0.mk (blk_drew BK409.out)
                have n1_ := Aside0.mk (below_drew1 HB.out)
                clear BK409
                clear HB
                have BK409 := n0_
                have HB := n1_
                clear n0_ n1_
                refine start_ (n := 14) (S := fun w' => w'.cell? ⟨gb409, 0, none⟩ = some (.slice A0_0 l0_0.length c0_0) ∧ w'.cell? ⟨gb409, 1, none⟩ = some (.slice A0_1 l0_1.length c0_1)) (ds := []) #[false, false, false, false, false, false, false, false, false, false, false, false, false, false] (by kernel_rfl) rfl rfl ⟨(blk_cell BK409.out 0).trans rfl, (blk_cell BK409.out 1).trans rfl⟩ (fun hHeld => ?_); refine with_tabW spec_l10Value.tab16 spec_l10Value.bits16 (fun HT_ HW_ => ?_)
                generalize w46.drew = w47 at BK409 HB hHeld ⊢
                refine pure_ (i := 1) (N := some 63) (v := ?_) (a' := ?_) #[false, true, false, false, false, false, false, false, false, false, false, false, false, false] rfl rfl (any_of HT_.out (by kernel_rfl)) (fun _ _ _ h => h) (Or.inl ⟨by rfl, ?_⟩) ?_ ?_
                rotate_left
                ·intro w'
                 go_simp
                 with_reducible rfl
                rotate_left
                ·simp only [Act.put, List.setIfInBounds_toArray, List.set_cons_zero, List.set_cons_succ, i64_w, i32_w]
                 rfl
                refine pure_ (i := 2) (N := some 64) (v := ?_) (a' := ?_) #[false, true, true, false, false, false, false, false, false, false, false, false, false, false] rfl rfl (any_of HT_.out (by kernel_rfl)) (fun _ _ _ h => h) (Or.inl ⟨by rfl, ?_⟩) ?_ ?_
                rotate_left
                ·intro w'
                 go_simp
                 with_reducible rfl
                rotate_left
                ·simp only [Act.put, List.setIfInBounds_toArray, List.set_cons_zero, List.set_cons_succ, i64_w, i32_w]
                 rfl
                refine pure_ (i := 3) (N := some 65) (v := ?_) (a' := ?_) #[false, true, true, true, false, false, false, false, false, false, false, false, false, false] rfl rfl (any_of HT_.out (by kernel_rfl)) (fun _ _ _ h => h) (Or.inl ⟨by rfl, ?_⟩) ?_ ?_
                rotate_left
                ·intro w'
                 go_simp
                 with_reducible rfl
                rotate_left
                ·simp only [Act.put, List.setIfInBounds_toArray, List.set_cons_zero, List.set_cons_succ, i64_w, i32_w]
                 rfl
                refine pure_ (i := 4) (N := some 66) (v := ?_) (a' := ?_) #[false, true, true, true, true, false, false, false, false, false, false, false, false, false] rfl rfl (any_of HT_.out (by kernel_rfl)) (fun _ _ _ h => h) (Or.inl ⟨by rfl, ?_⟩) ?_ ?_
                rotate_left
                ·intro w'
                 go_simp
                 with_reducible rfl
                rotate_left
                ·simp only [Act.put, List.setIfInBounds_toArray, List.set_cons_zero, List.set_cons_succ, i64_w, i32_w]
                 rfl
                refine pure_ (i := 5) (N := some 67) (v := ?_) (a' := ?_) #[false, true, true, true, true, true, false, false, false, false, false, false, false, false] rfl rfl (any_of HT_.out (by kernel_rfl)) (fun _ _ _ h => h) (Or.inl ⟨by rfl, ?_⟩) ?_ ?_
                rotate_left
                ·intro w'
                 go_simp
                 with_reducible rfl
                rotate_left
                ·simp only [Act.put, List.setIfInBounds_toArray, List.set_cons_zero, List.set_cons_succ, i64_w, i32_w]
                 rfl
                refine pure_ (i := 6) (N := some 68) (v := ?_) (a' := ?_) #[false, true, true, true, true, true, true, false, false, false, false, false, false, false] rfl rfl (any_of HT_.out (by kernel_rfl)) (fun _ _ _ h => h) (Or.inl ⟨by rfl, ?_⟩) ?_ ?_
                rotate_left
                ·intro w'
                 go_simp
                 with_reducible rfl
                rotate_left
                ·simp only [Act.put, List.setIfInBounds_toArray, List.set_cons_zero, List.set_cons_succ, i64_w, i32_w]
                 rfl
                refine pure_ (i := 7) (N := some 69) (v := ?_) (a' := ?_) #[false, true, true, true, true, true, true, true, false, false, false, false, false, false] rfl rfl (any_of HT_.out (by kernel_rfl)) (fun _ _ _ h => h) (Or.inl ⟨by rfl, ?_⟩) ?_ ?_
                rotate_left
                ·intro w'
                 go_simp
                 with_reducible rfl
                rotate_left
                ·simp only [Act.put, List.setIfInBounds_toArray, List.set_cons_zero, List.set_cons_succ, i64_w, i32_w]
                 rfl
                refine pure_ (i := 8) (N := some 70) (v := ?_) (a' := ?_) #[false, true, true, true, true, true, true, true, true, false, false, false, false, false] rfl rfl (any_of HT_.out (by kernel_rfl)) (fun _ _ _ h => h) (Or.inl ⟨by rfl, ?_⟩) ?_ ?_
                rotate_left
                ·intro w'
                 go_simp
                 with_reducible rfl
                rotate_left
                ·simp only [Act.put, List.setIfInBounds_toArray, List.set_cons_zero, List.set_cons_succ, i64_w, i32_w]
                 rfl
                refine pure_ (i := 9) (N := some 71) (v := ?_) (a' := ?_) #[false, true, true, true, true, true, true, true, true, true, false, false, false, false] rfl rfl (any_of HT_.out (by kernel_rfl)) (fun _ _ _ h => h) (Or.inl ⟨by rfl, ?_⟩) ?_ ?_
                rotate_left
                ·intro w'
                 go_simp
                 with_reducible rfl
                rotate_left
                ·simp only [Act.put, List.setIfInBounds_toArray, List.set_cons_zero, List.set_cons_succ, i64_w, i32_w]
                 rfl
                refine pure_ (i := 10) (N := some 72) (v := ?_) (a' := ?_) #[false, true, true, true, true, true, true, true, true, true, true, false, false, false] rfl rfl (any_of HT_.out (by kernel_rfl)) (fun _ _ _ h => h) (Or.inl ⟨by rfl, ?_⟩) ?_ ?_
                rotate_left
                ·intro w'
                 go_simp
                 with_reducible rfl
                rotate_left
                ·simp only [Act.put, List.setIfInBounds_toArray, List.set_cons_zero, List.set_cons_succ, i64_w, i32_w]
                 rfl
                refine pure_ (i := 11) (N := some 73) (v := ?_) (a' := ?_) #[false, true, true, true, true, true, true, true, true, true, true, true, false, false] rfl rfl (any_of HT_.out (by kernel_rfl)) (fun _ _ _ h => h) (Or.inl ⟨by rfl, ?_⟩) ?_ ?_
                rotate_left
                ·intro w'
                 go_simp
                 with_reducible rfl
                rotate_left
                ·simp only [Act.put, List.setIfInBounds_toArray, List.set_cons_zero, List.set_cons_succ, i64_w, i32_w]
                 rfl
                refine take_ (i := 0) (N := some 62) (v := ?_) (a' := ?_) #[true, true, true, true, true, true, true, true, true, true, true, true, false, false] rfl rfl (take_ofW HT_.out HW_.out (by kernel_rfl)) (fun _ _ _ h => h) (Or.inl ⟨by rfl, ?_⟩) hHeld ?_ ?_
                rotate_left
                ·rintro w' ⟨s0, s1⟩
                 go_simp
                 with_reducible rfl
                rotate_left
                ·simp only [Act.put, List.setIfInBounds_toArray, List.set_cons_zero, List.set_cons_succ, i64_w, i32_w]
                 rfl
                refine one_ (i := 12) (N := some 74) #[true, true, true, true, true, true, true, true, true, true, true, true, true, false] rfl rfl (one_of HT_.out (by kernel_rfl)) (by decide) (fun K hK => ?_)
                refine goes_ Try.func71 (by kernel_rfl) rfl #[.agg #[.slice A0_0 l0_0.length c0_0, .slice A0_1 l0_1.length c0_1], .string (a1.extract ((ji34) : Int).toNat ((wrap64 ((a1.size : Int) - 1)) : Int).toNat), .int .i64 a2, .int .i64 a3, .int .i64 a4, .int .i64 a5] (by rfl) rfl rfl (by (try simp only [List.map_toArray, List.map_cons, List.map_nil]); first | done | (simp only [hji34]; rfl) | rfl | (simp only [List.length_drop, List.length_take]; rfl)) ?_
                with_reducible refine (ih k (by omega) _ _ l0_0 _ _ l0_1 (a1.extract ((ji34) : Int).toNat ((wrap64 ((a1.size : Int) - 1)) : Int).toNat) a2 a3 a4 a5 t415 _ ?side1 ?side2 ?side3 ?side4 A38.out).mono ?_
                (case side1 => repeat (first | exact (Kd.C_below HR0_0.out HB.out) | (with_reducible refine Kd.C_alloc ?_ _) | (with_reducible refine Kd.C_drewN ?_ _) | (with_reducible refine Kd.C_drew ?_)))
                (case side2 => exact HC0_0.out)
                (case side3 => repeat (first | exact (Kd.C_below HR0_1.out HB.out) | (with_reducible refine Kd.C_alloc ?_ _) | (with_reducible refine Kd.C_drewN ?_ _) | (with_reducible refine Kd.C_drew ?_)))
                (case side4 => exact HC0_1.out)
                rintro e w48 ⟨rfl, hb⟩
                refine ⟨_, rfl, ?_⟩
                have n0_ := Aside0.mk (blk_below (g := gb409) (o := .cells #[.slice A0_0 l0_0.length c0_0, .slice A0_1 l0_1.length c0_1] 28 (0, 0)) (by (with_reducible repeat (first | refine blk_drewN ?_ _ | refine blk_drew ?_ | refine blk_alloc ?_ _)); exact BK409.out) hb)
                have n1_ := Aside0.mk (below_step (by repeat (first | (with_reducible first | exact HB.out | apply below_alloc | apply pw_below_drewN | apply below_drew1 | refine below_set ?_ GE409.out) | exact HB.out)) hb)
                clear BK409
                clear HB
                have BK409 := n0_
                have HB := n1_
                clear n0_ n1_
                (try clear hb)
                (try clear hb2)
                (try clear hk)
                (try clear hi)
                refine hK.out _ _ ⟨(blk_cell BK409.out 0).trans rfl, (blk_cell BK409.out 1).trans rfl⟩ (fun hHeld => ?_)
                clear hK K
                refine norm_ (a' := ?_) ?_ ?_
                rotate_left
                ·show Act.put _ (some 74) _ = _
                 simp only [Act.put, List.setIfInBounds_toArray, List.set_cons_zero, List.set_cons_succ, i64_w, i32_w]
                 rfl
                refine pure_ (i := 13) (N := some 15) (v := ?_) (a' := ?_) #[true, true, true, true, true, true, true, true, true, true, true, true, true, true] rfl rfl (any_of HT_.out (by kernel_rfl)) (fun _ _ _ h => h) (Or.inl ⟨by rfl, ?_⟩) ?_ ?_
                rotate_left
                ·intro w'
                 go_simp
                 with_reducible rfl
                rotate_left
                ·simp only [Act.put, List.setIfInBounds_toArray, List.set_cons_zero, List.set_cons_succ, i64_w, i32_w]
                 rfl
                refine done_ (done_of HT_.out (by kernel_rfl)) ?_
                have p41 : 0 ≤ (t413 : Int) := of_decide_eq_true (by first | (with_reducible assumption) | assumption)
                have q41 : t413 < (a1.size : Int) := of_decide_eq_true (by first | (with_reducible assumption) | assumption)
                have hx41 := bt_at a1 t413
                replace p41 := eq_true p41
                replace q41 := eq_true q41
                have hcz49_0 : w48.cell? ⟨gb409, 0, none⟩ = some (.slice A0_0 l0_0.length c0_0) := (blk_cell BK409.out 0).trans rfl
                have hcz49_1 : w48.cell? ⟨gb409, 1, none⟩ = some (.slice A0_1 l0_1.length c0_1) := (blk_cell BK409.out 1).trans rfl
                have hfz49_0 := blk_frozen BK409.out 0
                have hfz49_1 := blk_frozen BK409.out 1
                try go_wp2_with (first | ((with_reducible refine gate_callee (f := 101) rfl ?_); refine goesL_ (some 83) rfl rfl Try.func101 (by kernel_rfl) rfl #[.slice A0_0 l0_0.length c0_0, .int .i64 t414, .int .i64 t415] rfl (by (try simp only [List.map_toArray, List.map_cons, List.map_nil]); first | done | rfl | (simp only [List.length_drop, List.length_take]; rfl)) ?_; (with_reducible refine (spec_l1Meet.calls k _ _ l0_0 t414 t415 t416 _ ?side1 ?side2 A43.out).mono ?_); (case side1 => repeat (first | exact (Kd.C_below HR0_0.out HB.out) | (with_reducible refine Kd.C_alloc ?_ _) | (with_reducible refine Kd.C_drewN ?_ _) | (with_reducible refine Kd.C_drew ?_))); (case side2 => exact HC0_0.out); rintro e w' ⟨rfl, ⟨nd, rfl⟩⟩; refine ⟨_, rfl, ?_⟩))
                go_ret
                exact ⟨by first | rfl | (simp [errW_none, errW_some] <;> rfl) | (simp only [← hji34]; first | rfl | (simp [errW_none, errW_some] <;> rfl)) | (simp [*, errW_none, errW_some] <;> rfl), by repeat (first | (with_reducible first | exact HB.out | apply below_alloc | apply pw_below_drewN | apply below_drew1 | refine below_set ?_ GE409.out) | exact HB.out)⟩
               ·rw [if_neg c42] at H
                have c42b0 : ((bt a1 t413) == 38) = false := beq_eq_false_iff_ne.mpr c42
                have c42b1 : ((bt a1 t413) != 38) = true := bne_iff_ne.mpr c42
                replace H := Option.bind_eq_some_iff.mp H
                obtain ⟨t417, A500, H⟩ := H
                replace H : (some t417) = some r := H
                have A50 := Aside0.mk A500
                clear A500
                obtain rfl := Option.some.inj H
                go_enter Try.func71, Try.ntmps71
                try go_wp2_with (first | ((with_reducible refine gate_dst (N := 6) rfl ?_); refine box_event ?hg (N := 6) ?hd (cs := #[.slice A0_0 l0_0.length c0_0, .slice A0_1 l0_1.length c0_1]) (t := 28) ?hr ?_; (case hd => rfl); (case hg => rfl); (case hr => first | (go_simp; done) | (go_simp; rfl)); intro gb409 hg w51 hbox hb; have n0_ := Aside0.mk (below_step (by repeat (first | (with_reducible first | exact HB.out | apply below_alloc | apply pw_below_drewN | apply below_drew1) | exact HB.out)) hb); have n1_ := Aside0.mk (hbox); have n2_ := Aside0.mk ((by rw [hg]; exact (below_size (by repeat (first | (with_reducible first | exact HB.out | apply below_alloc | apply pw_below_drewN | apply below_drew1) | exact HB.out))) : w.heap.size ≤ gb409)); have n3_ := Aside0.mk ((by rw [hg]; exact (below_size (by repeat (first | (with_reducible first | exact HB.out | apply below_alloc | apply pw_below_drewN | apply below_drew1) | exact HB.out))) : w.heap.size ≤ gb409)); clear HB; have HB := n0_; have BK409 := n1_; have GW409 := n2_; have GE409 := n3_; clear n0_ n1_ n2_ n3_; clear hb hbox hg; have p8 : 0 ≤ (0 : Int) := (by omega); have q8 : 0 < a1.size := (by have : (0 : Int) < (a1.size : Int) := of_decide_eq_true (by first | (with_reducible assumption) | assumption); omega); have hx8 : ∀ h : 0 < a1.size, ((a1[0]'h).toNat : Int) = bt a1 0 := bt_at a1 0; clear p8; have qi8 : (0 < (a1.size : Int)) = True := eq_true (of_decide_eq_true (by first | (with_reducible assumption) | assumption)); replace q8 := eq_true q8) | ((with_reducible refine gate_callee (f := 110) rfl ?_); refine goesL_ (some 52) rfl rfl Try.func110 (by kernel_rfl) rfl #[.string a1, .int .i64 1] rfl (by (try simp only [List.map_toArray, List.map_cons, List.map_nil]); first | done | rfl | (simp only [List.length_drop, List.length_take]; rfl)) ?_; (with_reducible refine (spec_l10End.calls k a1 1 t413 _ A30.out).mono ?_); rintro e w' ⟨rfl, ⟨nd, rfl⟩⟩; refine ⟨_, rfl, ?_⟩))
                (try (rw [drewN_self w51]; generalize hq_ : World.drewN w51 _ = w51; have n0_ : Aside0 (w51.heap[gb409]? = some (.cells #[.slice A0_0 l0_0.length c0_0, .slice A0_1 l0_1.length c0_1] 28 (0, 0))) := ⟨by rw [← hq_]; exact (by (with_reducible repeat (first | refine blk_drewN ?_ _ | refine blk_drew ?_ | refine blk_alloc ?_ _)); exact BK409.out)⟩; have n1_ : Aside0 (Below w.heap.size w w51) := ⟨by rw [← hq_]; exact (by repeat (first | (with_reducible first | exact HB.out | apply below_alloc | apply pw_below_drewN | apply below_drew1 | refine below_set ?_ GE409.out) | exact HB.out))⟩; clear BK409 HB hq_; have BK409 := n0_; have HB := n1_; clear n0_ n1_))
                have n0_ := Aside0.mk (blk_drew BK409.out)
                have n1_ := Aside0.mk (below_drew1 HB.out)
                clear BK409
                clear HB
                have BK409 := n0_
                have HB := n1_
                clear n0_ n1_
                refine start_ (n := 10) (S := fun w' => w'.cell? ⟨gb409, 0, none⟩ = some (.slice A0_0 l0_0.length c0_0) ∧ w'.cell? ⟨gb409, 1, none⟩ = some (.slice A0_1 l0_1.length c0_1)) (ds := []) #[false, false, false, false, false, false, false, false, false, false] (by kernel_rfl) rfl rfl ⟨(blk_cell BK409.out 0).trans rfl, (blk_cell BK409.out 1).trans rfl⟩ (fun hHeld => ?_); refine with_tabW spec_l10Value.tab15 spec_l10Value.bits15 (fun HT_ HW_ => ?_)
                generalize w51.drew = w52 at BK409 HB hHeld ⊢
                refine pure_ (i := 1) (N := some 54) (v := ?_) (a' := ?_) #[false, true, false, false, false, false, false, false, false, false] rfl rfl (any_of HT_.out (by kernel_rfl)) (fun _ _ _ h => h) (Or.inl ⟨by rfl, ?_⟩) ?_ ?_
                rotate_left
                ·intro w'
                 go_simp
                 with_reducible rfl
                rotate_left
                ·simp only [Act.put, List.setIfInBounds_toArray, List.set_cons_zero, List.set_cons_succ, i64_w, i32_w]
                 rfl
                refine pure_ (i := 2) (N := some 55) (v := ?_) (a' := ?_) #[false, true, true, false, false, false, false, false, false, false] rfl rfl (any_of HT_.out (by kernel_rfl)) (fun _ _ _ h => h) (Or.inl ⟨by rfl, ?_⟩) ?_ ?_
                rotate_left
                ·intro w'
                 go_simp
                 with_reducible rfl
                rotate_left
                ·simp only [Act.put, List.setIfInBounds_toArray, List.set_cons_zero, List.set_cons_succ, i64_w, i32_w]
                 rfl
                refine pure_ (i := 3) (N := some 56) (v := ?_) (a' := ?_) #[false, true, true, true, false, false, false, false, false, false] rfl rfl (any_of HT_.out (by kernel_rfl)) (fun _ _ _ h => h) (Or.inl ⟨by rfl, ?_⟩) ?_ ?_
                rotate_left
                ·intro w'
                 go_simp
                 with_reducible rfl
                rotate_left
                ·simp only [Act.put, List.setIfInBounds_toArray, List.set_cons_zero, List.set_cons_succ, i64_w, i32_w]
                 rfl
                refine pure_ (i := 4) (N := some 57) (v := ?_) (a' := ?_) #[false, true, true, true, true, false, false, false, false, false] rfl rfl (any_of HT_.out (by kernel_rfl)) (fun _ _ _ h => h) (Or.inl ⟨by rfl, ?_⟩) ?_ ?_
                rotate_left
                ·intro w'
                 go_simp
                 with_reducible rfl
                rotate_left
                ·simp only [Act.put, List.setIfInBounds_toArray, List.set_cons_zero, List.set_cons_succ, i64_w, i32_w]
                 rfl
                refine pure_ (i := 5) (N := some 58) (v := ?_) (a' := ?_) #[false, true, true, true, true, true, false, false, false, false] rfl rfl (any_of HT_.out (by kernel_rfl)) (fun _ _ _ h => h) (Or.inl ⟨by rfl, ?_⟩) ?_ ?_
                rotate_left
                ·intro w'
                 go_simp
                 with_reducible rfl
                rotate_left
                ·simp only [Act.put, List.setIfInBounds_toArray, List.set_cons_zero, List.set_cons_succ, i64_w, i32_w]
                 rfl
                refine pure_ (i := 6) (N := some 59) (v := ?_) (a' := ?_) #[false, true, true, true, true, true, true, false, false, false] rfl rfl (any_of HT_.out (by kernel_rfl)) (fun _ _ _ h => h) (Or.inl ⟨by rfl, ?_⟩) ?_ ?_
                rotate_left
                ·intro w'
                 go_simp
                 with_reducible rfl
                rotate_left
                ·simp only [Act.put, List.setIfInBounds_toArray, List.set_cons_zero, List.set_cons_succ, i64_w, i32_w]
                 rfl
                refine pure_ (i := 7) (N := some 60) (v := ?_) (a' := ?_) #[false, true, true, true, true, true, true, true, false, false] rfl rfl (any_of HT_.out (by kernel_rfl)) (fun _ _ _ h => h) (Or.inl ⟨by rfl, ?_⟩) ?_ ?_
                rotate_left
                ·intro w'
                 go_simp
                 with_reducible rfl
                rotate_left
                ·simp only [Act.put, List.setIfInBounds_toArray, List.set_cons_zero, List.set_cons_succ, i64_w, i32_w]
                 rfl
                refine take_ (i := 0) (N := some 53) (v := ?_) (a' := ?_) #[true, true, true, true, true, true, true, true, false, false] rfl rfl (take_ofW HT_.out HW_.out (by kernel_rfl)) (fun _ _ _ h => h) (Or.inl ⟨by rfl, ?_⟩) hHeld ?_ ?_
                rotate_left
                ·rintro w' ⟨s0, s1⟩
                 go_simp
                 with_reducible rfl
                rotate_left
                ·simp only [Act.put, List.setIfInBounds_toArray, List.set_cons_zero, List.set_cons_succ, i64_w, i32_w]
                 rfl
                refine one_ (i := 8) (N := some 61) #[true, true, true, true, true, true, true, true, true, false] rfl rfl (one_of HT_.out (by kernel_rfl)) (by decide) (fun K hK => ?_)
                refine goes_ Try.func71 (by kernel_rfl) rfl #[.agg #[.slice A0_0 l0_0.length c0_0, .slice A0_1 l0_1.length c0_1], .string (a1.extract 1 (t413 : Int).toNat), .int .i64 a2, .int .i64 a3, .int .i64 a4, .int .i64 a5] (by rfl) rfl rfl (by (try simp only [List.map_toArray, List.map_cons, List.map_nil]); first | done | rfl | (simp only [List.length_drop, List.length_take]; rfl)) ?_
                with_reducible refine (ih k (by omega) _ _ l0_0 _ _ l0_1 (a1.extract 1 (t413 : Int).toNat) a2 a3 a4 a5 t414 _ ?side1 ?side2 ?side3 ?side4 A33.out).mono ?_
                (case side1 => repeat (first | exact (Kd.C_below HR0_0.out HB.out) | (with_reducible refine Kd.C_alloc ?_ _) | (with_reducible refine Kd.C_drewN ?_ _) | (with_reducible refine Kd.C_drew ?_)))
                (case side2 => exact HC0_0.out)
                (case side3 => repeat (first | exact (Kd.C_below HR0_1.out HB.out) | (with_reducible refine Kd.C_alloc ?_ _) | (with_reducible refine Kd.C_drewN ?_ _) | (with_reducible refine Kd.C_drew ?_)))
                (case side4 => exact HC0_1.out)
                rintro e w53 ⟨rfl, hb⟩
                refine ⟨_, rfl, ?_⟩
                have n0_ := Aside0.mk (blk_below (g := gb409) (o := .cells #[.slice A0_0 l0_0.length c0_0, .slice A0_1 l0_1.length c0_1] 28 (0, 0)) (by (with_reducible repeat (first | refine blk_drewN ?_ _ | refine blk_drew ?_ | refine blk_alloc ?_ _)); exact BK409.out) hb)
                have n1_ := Aside0.mk (below_step (by repeat (first | (with_reducible first | exact HB.out | apply below_alloc | apply pw_below_drewN | apply below_drew1 | refine below_set ?_ GE409.out) | exact HB.out)) hb)
                clear BK409
                clear HB
                have BK409 := n0_
                have HB := n1_
                clear n0_ n1_
                (try clear hb)
                (try clear hb2)
                (try clear hk)
                (try clear hi)
                refine hK.out _ _ ⟨(blk_cell BK409.out 0).trans rfl, (blk_cell BK409.out 1).trans rfl⟩ (fun hHeld => ?_)
                clear hK K
                refine norm_ (a' := ?_) ?_ ?_
                rotate_left
                ·show Act.put _ (some 61) _ = _
                 simp only [Act.put, List.setIfInBounds_toArray, List.set_cons_zero, List.set_cons_succ, i64_w, i32_w]
                 rfl
                refine pure_ (i := 9) (N := some 14) (v := ?_) (a' := ?_) #[true, true, true, true, true, true, true, true, true, true] rfl rfl (any_of HT_.out (by kernel_rfl)) (fun _ _ _ h => h) (Or.inl ⟨by rfl, ?_⟩) ?_ ?_
                rotate_left
                ·intro w'
                 go_simp
                 with_reducible rfl
                rotate_left
                ·simp only [Act.put, List.setIfInBounds_toArray, List.set_cons_zero, List.set_cons_succ, i64_w, i32_w]
                 rfl
                refine done_ (done_of HT_.out (by kernel_rfl)) ?_
                try go_wp2
                have n0_ := Aside0.mk (blk_drew BK409.out)
                have n1_ := Aside0.mk (below_drew1 HB.out)
                clear BK409
                clear HB
                have BK409 := n0_
                have HB := n1_
                clear n0_ n1_
                refine start_ (n := 14) (S := fun w' => w'.cell? ⟨gb409, 0, none⟩ = some (.slice A0_0 l0_0.length c0_0) ∧ w'.cell? ⟨gb409, 1, none⟩ = some (.slice A0_1 l0_1.length c0_1)) (ds := []) #[false, false, false, false, false, false, false, false, false, false, false, false, false, false] (by kernel_rfl) rfl rfl ⟨(blk_cell BK409.out 0).trans rfl, (blk_cell BK409.out 1).trans rfl⟩ (fun hHeld => ?_); refine with_tabW spec_l10Value.tab16 spec_l10Value.bits16 (fun HT_ HW_ => ?_)
                generalize w53.drew = w54 at BK409 HB hHeld ⊢
                refine pure_ (i := 1) (N := some 63) (v := ?_) (a' := ?_) #[false, true, false, false, false, false, false, false, false, false, false, false, false, false] rfl rfl (any_of HT_.out (by kernel_rfl)) (fun _ _ _ h => h) (Or.inl ⟨by rfl, ?_⟩) ?_ ?_
                rotate_left
                ·intro w'
                 go_simp
                 with_reducible rfl
                rotate_left
                ·simp only [Act.put, List.setIfInBounds_toArray, List.set_cons_zero, List.set_cons_succ, i64_w, i32_w]
                 rfl
                refine pure_ (i := 2) (N := some 64) (v := ?_) (a' := ?_) #[false, true, true, false, false, false, false, false, false, false, false, false, false, false] rfl rfl (any_of HT_.out (by kernel_rfl)) (fun _ _ _ h => h) (Or.inl ⟨by rfl, ?_⟩) ?_ ?_
                rotate_left
                ·intro w'
                 go_simp
                 with_reducible rfl
                rotate_left
                ·simp only [Act.put, List.setIfInBounds_toArray, List.set_cons_zero, List.set_cons_succ, i64_w, i32_w]
                 rfl
                refine pure_ (i := 3) (N := some 65) (v := ?_) (a' := ?_) #[false, true, true, true, false, false, false, false, false, false, false, false, false, false] rfl rfl (any_of HT_.out (by kernel_rfl)) (fun _ _ _ h => h) (Or.inl ⟨by rfl, ?_⟩) ?_ ?_
                rotate_left
                ·intro w'
                 go_simp
                 with_reducible rfl
                rotate_left
                ·simp only [Act.put, List.setIfInBounds_toArray, List.set_cons_zero, List.set_cons_succ, i64_w, i32_w]
                 rfl
                refine pure_ (i := 4) (N := some 66) (v := ?_) (a' := ?_) #[false, true, true, true, true, false, false, false, false, false, false, false, false, false] rfl rfl (any_of HT_.out (by kernel_rfl)) (fun _ _ _ h => h) (Or.inl ⟨by rfl, ?_⟩) ?_ ?_
                rotate_left
                ·intro w'
                 go_simp
                 with_reducible rfl
                rotate_left
                ·simp only [Act.put, List.setIfInBounds_toArray, List.set_cons_zero, List.set_cons_succ, i64_w, i32_w]
                 rfl
                refine pure_ (i := 5) (N := some 67) (v := ?_) (a' := ?_) #[false, true, true, true, true, true, false, false, false, false, false, false, false, false] rfl rfl (any_of HT_.out (by kernel_rfl)) (fun _ _ _ h => h) (Or.inl ⟨by rfl, ?_⟩) ?_ ?_
                rotate_left
                ·intro w'
                 go_simp
                 with_reducible rfl
                rotate_left
                ·simp only [Act.put, List.setIfInBounds_toArray, List.set_cons_zero, List.set_cons_succ, i64_w, i32_w]
                 rfl
                refine pure_ (i := 6) (N := some 68) (v := ?_) (a' := ?_) #[false, true, true, true, true, true, true, false, false, false, false, false, false, false] rfl rfl (any_of HT_.out (by kernel_rfl)) (fun _ _ _ h => h) (Or.inl ⟨by rfl, ?_⟩) ?_ ?_
                rotate_left
                ·intro w'
                 go_simp
                 with_reducible rfl
                rotate_left
                ·simp only [Act.put, List.setIfInBounds_toArray, List.set_cons_zero, List.set_cons_succ, i64_w, i32_w]
                 rfl
                refine pure_ (i := 7) (N := some 69) (v := ?_) (a' := ?_) #[false, true, true, true, true, true, true, true, false, false, false, false, false, false] rfl rfl (any_of HT_.out (by kernel_rfl)) (fun _ _ _ h => h) (Or.inl ⟨by rfl, ?_⟩) ?_ ?_
                rotate_left
                ·intro w'
                 go_simp
                 with_reducible rfl
                rotate_left
                ·simp only [Act.put, List.setIfInBounds_toArray, List.set_cons_zero, List.set_cons_succ, i64_w, i32_w]
                 rfl
                refine pure_ (i := 8) (N := some 70) (v := ?_) (a' := ?_) #[false, true, true, true, true, true, true, true, true, false, false, false, false, false] rfl rfl (any_of HT_.out (by kernel_rfl)) (fun _ _ _ h => h) (Or.inl ⟨by rfl, ?_⟩) ?_ ?_
                rotate_left
                ·intro w'
                 go_simp
                 with_reducible rfl
                rotate_left
                ·simp only [Act.put, List.setIfInBounds_toArray, List.set_cons_zero, List.set_cons_succ, i64_w, i32_w]
                 rfl
                refine pure_ (i := 9) (N := some 71) (v := ?_) (a' := ?_) #[false, true, true, true, true, true, true, true, true, true, false, false, false, false] rfl rfl (any_of HT_.out (by kernel_rfl)) (fun _ _ _ h => h) (Or.inl ⟨by rfl, ?_⟩) ?_ ?_
                rotate_left
                ·intro w'
                 go_simp
                 with_reducible rfl
                rotate_left
                ·simp only [Act.put, List.setIfInBounds_toArray, List.set_cons_zero, List.set_cons_succ, i64_w, i32_w]
                 rfl
                refine pure_ (i := 10) (N := some 72) (v := ?_) (a' := ?_) #[false, true, true, true, true, true, true, true, true, true, true, false, false, false] rfl rfl (any_of HT_.out (by kernel_rfl)) (fun _ _ _ h => h) (Or.inl ⟨by rfl, ?_⟩) ?_ ?_
                rotate_left
                ·intro w'
                 go_simp
                 with_reducible rfl
                rotate_left
                ·simp only [Act.put, List.setIfInBounds_toArray, List.set_cons_zero, List.set_cons_succ, i64_w, i32_w]
                 rfl
                refine pure_ (i := 11) (N := some 73) (v := ?_) (a' := ?_) #[false, true, true, true, true, true, true, true, true, true, true, true, false, false] rfl rfl (any_of HT_.out (by kernel_rfl)) (fun _ _ _ h => h) (Or.inl ⟨by rfl, ?_⟩) ?_ ?_
                rotate_left
                ·intro w'
                 go_simp
                 with_reducible rfl
                rotate_left
                ·simp only [Act.put, List.setIfInBounds_toArray, List.set_cons_zero, List.set_cons_succ, i64_w, i32_w]
                 rfl
                refine take_ (i := 0) (N := some 62) (v := ?_) (a' := ?_) #[true, true, true, true, true, true, true, true, true, true, true, true, false, false] rfl rfl (take_ofW HT_.out HW_.out (by kernel_rfl)) (fun _ _ _ h => h) (Or.inl ⟨by rfl, ?_⟩) hHeld ?_ ?_
                rotate_left
                ·rintro w' ⟨s0, s1⟩
                 go_simp
                 with_reducible rfl
                rotate_left
                ·simp only [Act.put, List.setIfInBounds_toArray, List.set_cons_zero, List.set_cons_succ, i64_w, i32_w]
                 rfl
                refine one_ (i := 12) (N := some 74) #[true, true, true, true, true, true, true, true, true, true, true, true, true, false] rfl rfl (one_of HT_.out (by kernel_rfl)) (by decide) (fun K hK => ?_)
                refine goes_ Try.func71 (by kernel_rfl) rfl #[.agg #[.slice A0_0 l0_0.length c0_0, .slice A0_1 l0_1.length c0_1], .string (a1.extract ((ji34) : Int).toNat ((wrap64 ((a1.size : Int) - 1)) : Int).toNat), .int .i64 a2, .int .i64 a3, .int .i64 a4, .int .i64 a5] (by rfl) rfl rfl (by (try simp only [List.map_toArray, List.map_cons, List.map_nil]); first | done | (simp only [hji34]; rfl) | rfl | (simp only [List.length_drop, List.length_take]; rfl)) ?_
                with_reducible refine (ih k (by omega) _ _ l0_0 _ _ l0_1 (a1.extract ((ji34) : Int).toNat ((wrap64 ((a1.size : Int) - 1)) : Int).toNat) a2 a3 a4 a5 t415 _ ?side1 ?side2 ?side3 ?side4 A38.out).mono ?_
                (case side1 => repeat (first | exact (Kd.C_below HR0_0.out HB.out) | (with_reducible refine Kd.C_alloc ?_ _) | (with_reducible refine Kd.C_drewN ?_ _) | (with_reducible refine Kd.C_drew ?_)))
                (case side2 => exact HC0_0.out)
                (case side3 => repeat (first | exact (Kd.C_below HR0_1.out HB.out) | (with_reducible refine Kd.C_alloc ?_ _) | (with_reducible refine Kd.C_drewN ?_ _) | (with_reducible refine Kd.C_drew ?_)))
                (case side4 => exact HC0_1.out)
                rintro e w55 ⟨rfl, hb⟩
                refine ⟨_, rfl, ?_⟩
                have n0_ := Aside0.mk (blk_below (g := gb409) (o := .cells #[.slice A0_0 l0_0.length c0_0, .slice A0_1 l0_1.length c0_1] 28 (0, 0)) (by (with_reducible repeat (first | refine blk_drewN ?_ _ | refine blk_drew ?_ | refine blk_alloc ?_ _)); exact BK409.out) hb)
                have n1_ := Aside0.mk (below_step (by repeat (first | (with_reducible first | exact HB.out | apply below_alloc | apply pw_below_drewN | apply below_drew1 | refine below_set ?_ GE409.out) | exact HB.out)) hb)
                clear BK409
                clear HB
                have BK409 := n0_
                have HB := n1_
                clear n0_ n1_
                (try clear hb)
                (try clear hb2)
                (try clear hk)
                (try clear hi)
                refine hK.out _ _ ⟨(blk_cell BK409.out 0).trans rfl, (blk_cell BK409.out 1).trans rfl⟩ (fun hHeld => ?_)
                clear hK K
                refine norm_ (a' := ?_) ?_ ?_
                rotate_left
                ·show Act.put _ (some 74) _ = _
                 simp only [Act.put, List.setIfInBounds_toArray, List.set_cons_zero, List.set_cons_succ, i64_w, i32_w]
                 rfl
                refine pure_ (i := 13) (N := some 15) (v := ?_) (a' := ?_) #[true, true, true, true, true, true, true, true, true, true, true, true, true, true] rfl rfl (any_of HT_.out (by kernel_rfl)) (fun _ _ _ h => h) (Or.inl ⟨by rfl, ?_⟩) ?_ ?_
                rotate_left
                ·intro w'
                 go_simp
                 with_reducible rfl
                rotate_left
                ·simp only [Act.put, List.setIfInBounds_toArray, List.set_cons_zero, List.set_cons_succ, i64_w, i32_w]
                 rfl
                refine done_ (done_of HT_.out (by kernel_rfl)) ?_
                have p41 : 0 ≤ (t413 : Int) := of_decide_eq_true (by first | (with_reducible assumption) | assumption)
                have q41 : t413 < (a1.size : Int) := of_decide_eq_true (by first | (with_reducible assumption) | assumption)
                have hx41 := bt_at a1 t413
                replace p41 := eq_true p41
                replace q41 := eq_true q41
                have hcz56_0 : w55.cell? ⟨gb409, 0, none⟩ = some (.slice A0_0 l0_0.length c0_0) := (blk_cell BK409.out 0).trans rfl
                have hcz56_1 : w55.cell? ⟨gb409, 1, none⟩ = some (.slice A0_1 l0_1.length c0_1) := (blk_cell BK409.out 1).trans rfl
                have hfz56_0 := blk_frozen BK409.out 0
                have hfz56_1 := blk_frozen BK409.out 1
                try go_wp2_with (first | ((with_reducible refine gate_callee (f := 102) rfl ?_); refine goesL_ (some 88) rfl rfl Try.func102 (by kernel_rfl) rfl #[.slice A0_0 l0_0.length c0_0, .int .i64 t414, .int .i64 t415] rfl (by (try simp only [List.map_toArray, List.map_cons, List.map_nil]); first | done | rfl | (simp only [List.length_drop, List.length_take]; rfl)) ?_; (with_reducible refine (spec_l1Join.calls k _ _ l0_0 t414 t415 t417 _ ?side1 ?side2 A50.out).mono ?_); (case side1 => repeat (first | exact (Kd.C_below HR0_0.out HB.out) | (with_reducible refine Kd.C_alloc ?_ _) | (with_reducible refine Kd.C_drewN ?_ _) | (with_reducible refine Kd.C_drew ?_))); (case side2 => exact HC0_0.out); rintro e w' ⟨rfl, ⟨nd, rfl⟩⟩; refine ⟨_, rfl, ?_⟩))
                go_ret
                exact ⟨by first | rfl | (simp [errW_none, errW_some] <;> rfl) | (simp only [← hji34]; first | rfl | (simp [errW_none, errW_some] <;> rfl)) | (simp [*, errW_none, errW_some] <;> rfl), by repeat (first | (with_reducible first | exact HB.out | apply below_alloc | apply pw_below_drewN | apply below_drew1 | refine below_set ?_ GE409.out) | exact HB.out)⟩
              ·rw [if_neg c40] at H
               exact absurd H (by simp)
             ·rw [if_neg c39] at H
              exact absurd H (by simp)
            ·rw [if_neg c37] at H
             exact absurd H (by simp)
           ·rw [if_neg c36] at H
            exact absurd H (by simp)
          ·rw [if_neg c35] at H
           exact absurd H (by simp)
         ·rw [if_neg c32] at H
          exact absurd H (by simp)
        ·rw [if_neg c31] at H
         exact absurd H (by simp)
 ·rw [if_neg c7] at H
  exact absurd H (by simp)
end Go.Proofs.Ythideghgdmokkaa.Print
end
section
namespace Go.Proofs.Ythideghgdmokkaa.Print
open Go.RowKit Go.Proofs.YthideghgdmokkaaW.PrintWords Go.Proofs.YthideghgdmokkaaW.PrintLast Go.Proofs.YthideghgdmokkaaW.PrintMore
set_option linter.unusedVariables false
set_option linter.unusedSimpArgs false
open Oml
theorem cut_size (s : ByteArray) {i m : Nat} (h : m ≤ s.size) : (s.extract i m).size = m - i := by rw [ByteArray.size_extract]; omega
theorem cut_cut (s : ByteArray) {i m a b : Nat} (h : m ≤ s.size) (h2 : i + b ≤ m) : (s.extract i m).extract a b = s.extract (i + a) (i + b) := by
  rw [ByteArray.extract_extract]
  congr 1
  omega
theorem cut_next (s : ByteArray) {i m : Nat} (h : i < m) (h2 : m ≤ s.size) : (s.extract i m).extract 1 (s.extract i m).size = s.extract (i + 1) m := by
  rw [cut_size s h2, cut_cut s h2 (by omega)]
  congr 1
  omega
theorem cut_bt (s : ByteArray) {i m j : Nat} (h : i + j < m) (h2 : m ≤ s.size) : bt (s.extract i m) (j : Int) = bt s ((i + j : Nat) : Int) := by
  have h1 : j < (s.extract i m).size := by rw [cut_size s h2]; omega
  have e1 := bt_at (s.extract i m) (j : Int) (by rw [Int.toNat_natCast]; exact h1)
  have e2 := bt_at s ((i + j : Nat) : Int) (by rw [Int.toNat_natCast]; omega)
  rw [← e1, ← e2]
  have e3 : (s.extract i m)[j]'h1 = s[i + j]'(by omega) := ByteArray.getElem_extract h1
  have e4 : (s[((i + j : Nat) : Int).toNat]'(by rw [Int.toNat_natCast]; omega)) = s[i + j]'(by omega) := by congr 1
  have e5 : ((s.extract i m)[(j : Int).toNat]'(by rw [Int.toNat_natCast]; exact h1)) = (s.extract i m)[j]'h1 := by congr 1
  rw [e4, e5, e3]
theorem rdF_cut (s : ByteArray) : ∀ (k i : Nat) (f : Fm) (r : ByteArray), i ≤ s.size → rdF k (sfx s i) = some (f, r) →
    ∃ j, i < j ∧ j ≤ s.size ∧ r = sfx s j ∧ ∀ m, j ≤ m → m ≤ s.size → rdF k (s.extract i m) = some (f, s.extract j m)
  | 0, _, _, _, _, h => by simp [rdF] at h
  | k + 1, i, f, r, hi, h => by
    have ih := rdF_cut s k
    by_cases hlt : i < s.size
    · have b0 : ∀ m, i < m → m ≤ s.size → bt (s.extract i m) 0 = bt s (i : Int) := fun m h1 h2 => cut_bt s (j := 0) (by omega) h2
      by_cases hl : isLeaf (bt s i)
      · rw [rdF_leaf hlt hl] at h
        cases h
        refine ⟨i + 1, by omega, by omega, rfl, fun m h1 h2 => ?_⟩
        simp only [rdF]
        rw [if_neg (by rw [cut_size s h2]; omega), b0 m (by omega) h2, if_pos hl, cut_next s (by omega) h2]
      · by_cases h33 : bt s (i : Int) = 33
        · rw [rdF_neg hlt h33] at h
          rcases hrd : rdF k (sfx s (i + 1)) with _ | ⟨f1, r1⟩
          · rw [hrd] at h; cases h
          rw [hrd] at h
          cases h
          obtain ⟨j, a, b, c, d⟩ := ih (i + 1) _ _ (by omega) hrd
          refine ⟨j, by omega, b, c, fun m h1 h2 => ?_⟩
          simp only [rdF]
          rw [if_neg (by rw [cut_size s h2]; omega), b0 m (by omega) h2, if_neg hl, if_pos h33, cut_next s (by omega) h2, d m h1 h2]
        · by_cases h40 : bt s (i : Int) = 40
          · rw [rdF_par hlt h40] at h
            rcases hrd : rdF k (sfx s (i + 1)) with _ | ⟨f1, r1⟩
            · rw [hrd] at h; cases h
            rw [hrd] at h
            simp only [Option.bind_some] at h
            obtain ⟨j, a, b, rfl, d⟩ := ih (i + 1) _ _ (by omega) hrd
            split at h
            · cases h
            rename_i hj
            rw [sfx_size] at hj
            have hj' : j < s.size := by omega
            rw [sfx_bt s hj', sfx_next s hj'] at h
            split at h
            · rename_i ho
              rcases hrd2 : rdF k (sfx s (j + 1)) with _ | ⟨g, q⟩
              · rw [hrd2] at h; cases h
              rw [hrd2] at h
              simp only [Option.bind_some] at h
              obtain ⟨n, a2, b2, rfl, d2⟩ := ih (j + 1) _ _ (by omega) hrd2
              split at h
              · cases h
              rename_i hn
              rw [sfx_size] at hn
              have hn' : n < s.size := by omega
              rw [sfx_bt s hn', sfx_next s hn'] at h
              split at h
              · rename_i h41
                cases h
                refine ⟨n + 1, by omega, by omega, rfl, fun m h1 h2 => ?_⟩
                have c1 : bt (s.extract j m) 0 = bt s (j : Int) := cut_bt s (j := 0) (by omega) h2
                have c2 : bt (s.extract n m) 0 = bt s (n : Int) := cut_bt s (j := 0) (by omega) h2
                simp only [rdF]
                rw [if_neg (by rw [cut_size s h2]; omega), b0 m (by omega) h2, if_neg hl, if_neg h33, if_pos h40, cut_next s (by omega) h2, d m (by omega) h2]
                simp only []
                rw [if_neg (by rw [cut_size s h2]; omega), c1, if_pos ho, cut_next s (by omega) h2, d2 m (by omega) h2]
                simp only []
                rw [if_neg (by rw [cut_size s h2]; omega), c2, if_pos h41, cut_next s (by omega) h2]
              · cases h
            · cases h
          · rw [rdF_other hlt hl h33 h40] at h
            cases h
    · rw [rdF_end (by omega)] at h
      cases h
theorem l10Value_ev {U : List (List Int)} {N : List Int} (L : Logic U N) {a b c : Int} (ia : In U a) (ib : In U b) (ic : In U c) :
    ∀ (k : Nat) (s : ByteArray) (f : Fm) (r : ByteArray), s.size ≤ 1000000 → s.size ≤ k → rdF k s = some (f, r) → r.size = 0 → Ev (fun m => spec_l10Value.f m U N s a b c (noI U)) (valF U N a b c f) := by
  intro k
  induction k with
  | zero => intro s f r _ _ h; simp [rdF] at h
  | succ k ih =>
    intro s f r hs hk h hr
    have hsf := sfx_zero s
    have i0 := L.in_no
    by_cases h0 : s.size = 0
    · rw [← hsf, rdF_end (by omega)] at h
      cases h
    · have hlt : 0 < s.size := by omega
      rw [← hsf] at h
      by_cases hl : isLeaf (bt s (0 : Nat))
      · rw [rdF_leaf hlt hl] at h
        cases h
        refine Ev.succ ?_
        simp only [spec_l10Value.f, rd_in L i0]
        unfold isLeaf at hl
        have i1 := i0.1
        have i2 := i0.2
        rw [← L.len] at i2
        show Ev _ (if bt s 0 = 97 then a else if bt s 0 = 98 then b else if bt s 0 = 99 then c else if bt s 0 = 48 then noI U else yesI U N)
        have hl' : bt s 0 = 97 ∨ bt s 0 = 98 ∨ bt s 0 = 99 ∨ bt s 0 = 48 ∨ bt s 0 = 49 := hl
        clear hl
        rcases hl' with hl | hl | hl | hl | hl
        all_goals
          rw [hl]
          repeat (first | ((with_reducible refine Ev.ite_pos ?_ ?_); (first | assumption | (focus omega) | (focus (simp; done)))) | ((with_reducible refine Ev.ite_neg ?_ ?_); (first | assumption | (focus omega) | (focus (simp; done)))))
          exact Ev.now _
      · by_cases h33 : bt s ((0 : Nat) : Int) = 33
        · rw [rdF_neg hlt h33] at h
          rcases hrd : rdF k (sfx s (0 + 1)) with _ | ⟨f1, r1⟩
          · rw [hrd] at h; cases h
          rw [hrd] at h
          cases h
          have hI := ih (s.extract 1 s.size) f1 _ (by rw [ext_size]; omega) (by rw [ext_size]; omega) hrd hr
          have hv := in_val L ia ib ic f1
          have hv1 := hv.1
          have hv2 := hv.2
          rw [← L.len] at hv2
          refine Ev.succ ?_
          have e33 : bt s 0 = 33 := h33
          simp only [spec_l10Value.f]
          repeat (first | ((with_reducible refine Ev.ite_pos ?_ ?_); (first | assumption | (focus omega) | (focus (simp; done)))) | ((with_reducible refine Ev.ite_neg ?_ ?_); (first | assumption | (focus omega) | (focus (simp; done)))))
          refine Ev.bind hI ?_
          rw [rd_in L hv]
          repeat (first | ((with_reducible refine Ev.ite_pos ?_ ?_); (first | assumption | (focus omega) | (focus (simp; done)))) | ((with_reducible refine Ev.ite_neg ?_ ?_); (first | assumption | (focus omega) | (focus (simp; done)))))
          exact Ev.now _
        · by_cases h40 : bt s ((0 : Nat) : Int) = 40
          · rw [rdF_par hlt h40] at h
            rcases hrd : rdF k (sfx s (0 + 1)) with _ | ⟨f1, r1⟩
            · rw [hrd] at h; cases h
            rw [hrd] at h
            simp only [Option.bind_some] at h
            obtain ⟨j, ja, jb, rfl, jd⟩ := rdF_cut s k (0 + 1) _ _ (by omega) hrd
            split at h
            · cases h
            rename_i hj
            rw [sfx_size] at hj
            have hj' : j < s.size := by omega
            rw [sfx_bt s hj', sfx_next s hj'] at h
            split at h
            · rename_i ho
              rcases hrd2 : rdF k (sfx s (j + 1)) with _ | ⟨g, q⟩
              · rw [hrd2] at h; cases h
              rw [hrd2] at h
              simp only [Option.bind_some] at h
              obtain ⟨n, na, nb, rfl, nd⟩ := rdF_cut s k (j + 1) _ _ (by omega) hrd2
              split at h
              · cases h
              rename_i hn
              rw [sfx_size] at hn
              have hn' : n < s.size := by omega
              rw [sfx_bt s hn', sfx_next s hn'] at h
              split at h
              · rename_i h41
                cases h
                rw [sfx_size] at hr
                have hns : n = s.size - 1 := by omega
                have hE := l10End_ev s hs k 1 (by omega) (by omega)
                have e1 : endV s (rdF k (sfx s 1)) = (j : Int) := by
                  have h2 : rdF k (sfx s 1) = some (f1, sfx s j) := hrd
                  rw [h2]
                  show ((s.size - (sfx s j).size : Nat) : Int) = _
                  rw [sfx_size]; omega
                rw [e1] at hE
                have x1 := ih (s.extract 1 j) f1 _ (by rw [cut_size s jb]; omega) (by rw [cut_size s jb]; omega) (jd j (Nat.le_refl _) jb) (by rw [cut_size s jb]; omega)
                have x2 := ih (s.extract (j + 1) n) g _ (by rw [cut_size s nb]; omega) (by rw [cut_size s nb]; omega) (nd n (Nat.le_refl _) nb) (by rw [cut_size s nb]; omega)
                have hv := in_val L ia ib ic f1
                have hu := in_val L ia ib ic g
                have e40 : bt s 0 = 40 := h40
                have g0 : (0 : Int) < (s.size : Int) := by omega
                have g1 : (1 : Int) ≤ (j : Int) := by omega
                have g2 : (j : Int) ≤ (s.size : Int) := by omega
                have g3 : (0 : Int) ≤ ((j + 1 : Nat) : Int) := by omega
                have g4 : ((j + 1 : Nat) : Int) ≤ (n : Int) := by omega
                have g5 : (n : Int) ≤ (s.size : Int) := by omega
                have g6 : (0 : Int) ≤ (j : Int) := by omega
                have g7 : (j : Int) < (s.size : Int) := by omega
                have w1 : wrap64 ((j : Int) + 1) = ((j + 1 : Nat) : Int) := wrap_nat (by omega)
                have w2 : wrap64 ((s.size : Int) - 1) = (n : Int) := by rw [show (s.size : Int) - 1 = (n : Int) by omega]; exact wrap_small (by omega) (by omega)
                clear hs hk hr hns hn hn' hj hj' ja jb na nb jd nd h0 hlt h41
                refine Ev.succ ?_
                simp only [spec_l10Value.f]
                repeat (first | ((with_reducible refine Ev.ite_pos ?_ ?_); (first | assumption | (focus omega) | (focus (simp; done)))) | ((with_reducible refine Ev.ite_neg ?_ ?_); (first | assumption | (focus omega) | (focus (simp; done)))))
                refine Ev.bind hE ?_
                simp only [w1, w2, Int.toNat_natCast]
                repeat (first | ((with_reducible refine Ev.ite_pos ?_ ?_); (first | assumption | (focus omega) | (focus (simp; done)))) | ((with_reducible refine Ev.ite_neg ?_ ?_); (first | assumption | (focus omega) | (focus (simp; done)))))
                refine Ev.bind x1 ?_
                repeat (first | ((with_reducible refine Ev.ite_pos ?_ ?_); (first | assumption | (focus omega) | (focus (simp; done)))) | ((with_reducible refine Ev.ite_neg ?_ ?_); (first | assumption | (focus omega) | (focus (simp; done)))))
                refine Ev.bind x2 ?_
                show Ev _ (if bt s (j : Int) = 38 then andI U (valF U N a b c f1) (valF U N a b c g) else orI U (valF U N a b c f1) (valF U N a b c g))
                by_cases h38 : bt s (j : Int) = 38
                · rw [if_pos h38]
                  repeat (first | ((with_reducible refine Ev.ite_pos ?_ ?_); (first | assumption | (focus omega) | (focus (simp; done)))) | ((with_reducible refine Ev.ite_neg ?_ ?_); (first | assumption | (focus omega) | (focus (simp; done)))))
                  refine Ev.bind (meet_in L hv hu) ?_
                  exact Ev.now _
                · rw [if_neg h38]
                  repeat (first | ((with_reducible refine Ev.ite_pos ?_ ?_); (first | assumption | (focus omega) | (focus (simp; done)))) | ((with_reducible refine Ev.ite_neg ?_ ?_); (first | assumption | (focus omega) | (focus (simp; done)))))
                  refine Ev.bind (join_in L hv hu) ?_
                  exact Ev.now _
              · cases h
            · cases h
          · rw [rdF_other hlt hl h33 h40] at h
            cases h
theorem fmOf_rd {s : ByteArray} {f : Fm} (h : fmOf s = some f) : ∃ r, rdF s.size s = some (f, r) ∧ r.size = 0 ∧ s.size ≤ 60 := by
  unfold fmOf at h
  split at h
  · cases h
  · rename_i h60
    split at h
    · cases h
    · rename_i g r h1
      split at h
      · rename_i h2
        cases h; exact ⟨r, h1, h2, by omega⟩
      · cases h
theorem value_of_ev {U : List (List Int)} {N : List Int} (L : Logic U N) {a b c : Int} (ia : In U a) (ib : In U b) (ic : In U c) {s : ByteArray} {f : Fm} (h : fmOf s = some f) : Ev (fun m => spec_l10Value.f m U N s a b c (noI U)) (valF U N a b c f) := by
  obtain ⟨r, h1, h2, h3⟩ := fmOf_rd h
  exact l10Value_ev L ia ib ic s.size s f r (by omega) (Nat.le_refl _) h1 h2
end Go.Proofs.Ythideghgdmokkaa.Print
end
section
namespace Go.Proofs.Ythideghgdmokkaa.Print
open Go.RowKit Go.Proofs.YthideghgdmokkaaW.PrintWords Go.Proofs.YthideghgdmokkaaW.PrintLast Go.Proofs.YthideghgdmokkaaW.PrintMore
set_option linter.unusedVariables false
set_option linter.unusedSimpArgs false
open Oml
theorem goesV_ {P : Program} {ops : Array Oper} {Q : Exit → Act → World → Prop} {rest : List Oper} {oi : Oper} {a : Act} {w : World} (N : Option Tmp) (hd : oi.dst = N) (hg : oi.guard = none) {f : FuncId} {fn : Func} {x : Operand} {xo : Array Operand} {ts : Array TypeId} {cs : Array Value}
    (hf : P.funcs[f]? = some fn) (hname : (fn.name == "runtime.NumGoroutine") = false) (hb : fn.body.isSome = true) (args : Array Value)
    (hop : oi.op = .call { callee := .value x, args := xo, argTypes := ts }) (hx : a.eval x = .func (.func f) #[] cs) (hargs : xo.map a.eval = args)
    (h : Calls P f (args ++ cs) w fun e w' => ∃ v, e = .returned v ∧ wpList P ops Q rest (a.put N v) w') : wpList P ops Q (oi :: rest) a w := by
  refine wpList_plain hg fun K hK => ?_
  have he := enters_ hf hname hb (args ++ cs) w
  have hrun : (execOp a.eval oi).run P w = .ok (.enter f (args ++ cs)) w := by
    unfold execOp
    simp [hop, resolve, Deferred.ofValue, invoke, hx, hargs, he]
  unfold Oper.wp
  rw [hrun, Oper.upon_enter]
  refine h.mono fun e w'' hh => ?_
  obtain ⟨v, rfl, hk⟩ := hh
  subst hd
  exact hK _ _ hk
set_option maxHeartbeats 1000000 in
set_option maxRecDepth 100000 in
theorem every_calls (g : Nat) (U : List (List Int)) (N : List Int) (v : Adr) (w : World) (hs : U.length ≤ 12) (fv : Nat) (fn : Func) (cs : Array Value) (hf : Try.prog.funcs[fv]? = some fn) (hname : (fn.name == "runtime.NumGoroutine") = false) (hb : fn.body.isSome = true)
    (p : Nat → Nat → Bool) (J : Nat → World → Prop) (hV : ∀ i w', J i w' → View w' g U N v) (hD : ∀ i w' n, J i w' → J i (w'.drewN n)) (h0 : J 0 w)
    (step : ∀ a b : Nat, a < U.length → b < U.length → ∀ w', J (a * U.length + b) w' → Calls Try.prog fv (#[.int .i64 a, .int .i64 b] ++ cs) w' fun e w'' => e = .returned (.bool (p a b)) ∧ J (a * U.length + b + 1) w'') :
    Calls Try.prog 65 #[.pointer (some ⟨g, 0, none⟩), .func (.func fv) #[] cs] w fun e w' =>
      e = .returned (.bool (allN U.length fun a => allN U.length fun b => p a b)) ∧ ∃ i, J i w' ∧ ((allN U.length fun a => allN U.length fun b => p a b) = true → i = U.length * U.length) := by
  obtain ⟨r, hr⟩ : ∃ r, r = allN U.length fun a => allN U.length fun b => p a b := ⟨_, rfl⟩
  rw [← hr]
  have hu70 := Try.underlying81
  have HF := Aside0.mk hf
  have HNM := Aside0.mk hname
  have HBD := Aside0.mk hb
  have HV := Aside0.mk hV
  have HD := Aside0.mk hD
  have HJ0 := Aside0.mk h0
  have HST := Aside0.mk step
  have HR := Aside0.mk hr
  have hf0 := (hV 0 w h0).f0
  clear hf hname hb hV hD h0 step hr
  go_enter Try.func65, Try.ntmps65
  go_wp2_with fail
  go_loopg [12] (U.length + 1) (fun kq v12 W => ∃ i s : Nat, v12 = .int .i64 i ∧ Aside0 (i + kq = U.length + 1) ∧ Aside0 (i ≤ U.length) ∧ Aside0 (s = i * U.length) ∧ Aside0 (∀ a, a < i → ∀ b, b < U.length → p a b = true) ∧ Aside0 (J s W))
  case atStart => exact ⟨0, 0, rfl, ⟨by omega⟩, ⟨by omega⟩, ⟨by simp⟩, ⟨fun j hj => absurd hj (by omega)⟩, ⟨by first | exact HJ0.out | exact HD.out _ _ _ HJ0.out⟩⟩
  case round =>
    clear hf0
    obtain ⟨i, s, rfl, HK, HK2, HSI, HS, HJ⟩ := hrel
    have hf0 := (HV.out _ _ HJ.out).f0
    cases gk with
    | zero => exact absurd HK.out (by have := HK2.out; omega)
    | succ kn =>
    by_cases hlt : i < U.length
    · have hlt' : decide (i < U.length) = true := decide_eq_true hlt
      have HLT := Aside0.mk hlt
      clear hlt
      go_wp2_with fail
      go_loopg [20] (U.length + 1) (fun kq v20 W => ∃ j : Nat, v20 = .int .i64 j ∧ Aside0 (j + kq = U.length + 1) ∧ Aside0 (j ≤ U.length) ∧ Aside0 (∀ b, b < j → p i b = true) ∧ Aside0 (J (s + j) W))
      case atStart => exact ⟨0, rfl, ⟨by omega⟩, ⟨by omega⟩, ⟨fun j hj => absurd hj (by omega)⟩, ⟨by first | exact HJ.out | exact HD.out _ _ _ HJ.out⟩⟩
      case round =>
        clear hf0
        obtain ⟨j, rfl, HKj, HKj2, HSj, HJj⟩ := hrel
        cases gk with
        | zero => exact absurd HKj.out (by have := HKj2.out; omega)
        | succ kj =>
        by_cases hlj : j < U.length
        · have hlj' : decide (j < U.length) = true := decide_eq_true hlj
          have HLJ := Aside0.mk hlj
          clear hlj
          cases hp : p i j with
          | true =>
            have HP := Aside0.mk hp
            clear hp
            go_wp2_with (refine goesV_ (some 26) rfl rfl HF.out HNM.out HBD.out #[.int .i64 i, .int .i64 j] rfl rfl (by (try simp only [List.map_toArray, List.map_cons, List.map_nil]); first | done | rfl) ?_; refine (HST.out i j HLT.out HLJ.out _ ?sJ).mono ?_; (case sJ => first | (rw [← HSI.out]; exact HJj.out) | (rw [← HSI.out]; exact HD.out _ _ _ HJj.out)); rintro e w1 ⟨he, hj⟩; rw [HP.out] at he; subst he; refine ⟨_, rfl, ?_⟩; have HJ1 := Aside0.mk hj; clear hj)
            go_roundg kj
            case measure => omega
            case rel => exact ⟨j + 1, by first | go_num | (rw [wrap_small (by omega) (by have := HLJ.out; omega)]; go_num), ⟨by have := HKj.out; omega⟩, ⟨by have := HLJ.out; omega⟩, ⟨fun b hb => by
              rcases Nat.lt_or_ge b j with h | h
              · exact HSj.out b h
              · obtain rfl : b = j := by omega
                exact HP.out⟩, ⟨by have h1 := HJ1.out; rw [← HSI.out, Nat.add_assoc] at h1; first | exact h1 | exact HD.out _ _ _ h1⟩⟩
          | false =>
            have HP := Aside0.mk hp
            clear hp
            have hrf : r = false := by
              rw [HR.out]
              exact allN_false.2 ⟨i, HLT.out, allN_false.2 ⟨j, HLJ.out, HP.out⟩⟩
            subst hrf
            go_wp2_with (refine goesV_ (some 26) rfl rfl HF.out HNM.out HBD.out #[.int .i64 i, .int .i64 j] rfl rfl (by (try simp only [List.map_toArray, List.map_cons, List.map_nil]); first | done | rfl) ?_; refine (HST.out i j HLT.out HLJ.out _ ?sJ).mono ?_; (case sJ => first | (rw [← HSI.out]; exact HJj.out) | (rw [← HSI.out]; exact HD.out _ _ _ HJj.out)); rintro e w1 ⟨he, hj⟩; rw [HP.out] at he; subst he; refine ⟨_, rfl, ?_⟩; have HJ1 := Aside0.mk hj; clear hj)
            go_ret
            exact ⟨rfl, _, by first | exact HJ1.out | exact HD.out _ _ _ HJ1.out, fun h => by cases h⟩
        · have hlj' : decide (j < U.length) = false := decide_eq_false hlj
          obtain rfl : j = U.length := by have := HKj2.out; omega
          clear hlj
          go_wp2_with fail
          go_roundg kn
          case measure => omega
          case rel => exact ⟨i + 1, s + U.length, by first | go_num | (rw [wrap_small (by omega) (by have := HLT.out; omega)]; go_num), ⟨by have := HK.out; omega⟩, ⟨by have := HLT.out; omega⟩, ⟨by rw [Nat.succ_mul, HSI.out]⟩, ⟨fun a ha => by
            rcases Nat.lt_or_ge a i with h | h
            · exact HS.out a h
            · obtain rfl : a = i := by omega
              exact HSj.out⟩, ⟨by first | exact HJj.out | exact HD.out _ _ _ HJj.out⟩⟩
    · have hlt' : decide (i < U.length) = false := decide_eq_false hlt
      obtain rfl : i = U.length := by have := HK2.out; omega
      have hrt : r = true := by
        rw [HR.out, allN_iff]
        intro a ha
        exact allN_iff.2 (HS.out a ha)
      subst hrt
      clear hlt
      go_wp2_with fail
      go_ret
      have hj := HJ.out
      rw [HSI.out] at hj
      exact ⟨rfl, by first | exact hj | exact HD.out _ _ _ hj⟩
theorem every_pure (g : Nat) (U : List (List Int)) (N : List Int) (v : Adr) (w : World) (hs : U.length ≤ 12) (hV : View w g U N v) (fv : Nat) (fn : Func) (cs : Array Value) (hf : Try.prog.funcs[fv]? = some fn) (hname : (fn.name == "runtime.NumGoroutine") = false) (hb : fn.body.isSome = true)
    (p : Nat → Nat → Bool) (step : ∀ a b : Nat, a < U.length → b < U.length → ∀ W, Below w.heap.size w W → Calls Try.prog fv (#[.int .i64 a, .int .i64 b] ++ cs) W fun e w'' => e = .returned (.bool (p a b)) ∧ Below W.heap.size W w'') :
    Calls Try.prog 65 #[.pointer (some ⟨g, 0, none⟩), .func (.func fv) #[] cs] w fun e w' => e = .returned (.bool (allN U.length fun a => allN U.length fun b => p a b)) ∧ Below w.heap.size w w' := by
  refine (every_calls g U N v w hs fv fn cs hf hname hb p (fun _ W => Below w.heap.size w W) (fun _ W h => hV.below h) (fun _ W n h => pw_below_drewN h n) (Below.refl _ _) (fun a b ha hb' W hW => ?_)).mono ?_
  · refine (step a b ha hb' W hW).mono ?_
    rintro e w2 ⟨rfl, h2⟩
    exact ⟨rfl, below_step hW h2⟩
  · rintro e w2 ⟨rfl, i, h2, _⟩
    exact ⟨rfl, h2⟩
end Go.Proofs.Ythideghgdmokkaa.Print
end
section
namespace Go.Proofs.Ythideghgdmokkaa.Print
open Go.RowKit Go.Proofs.YthideghgdmokkaaW.PrintWords Go.Proofs.YthideghgdmokkaaW.PrintLast Go.Proofs.YthideghgdmokkaaW.PrintMore
set_option linter.unusedVariables false
set_option linter.unusedSimpArgs false
open Oml
structure SameI (w : World) (g : Nat) (U : List (List Int)) (N : List Int) (v : Adr) (gG gF gH pf ph : Nat) (f h : Fm) : Prop where
  view : View w g U N v
  bG : w.heap[gG]? = some (.cells #[.pointer (some ⟨g, 0, none⟩)] 73 (0, 0))
  bF : w.heap[gF]? = some (.cells #[.pointer (some ⟨pf, 0, none⟩)] 84 (0, 0))
  bH : w.heap[gH]? = some (.cells #[.pointer (some ⟨ph, 0, none⟩)] 84 (0, 0))
  tf : FAt w pf f
  th : FAt w ph h
theorem SameI.below {w w1 : World} {g : Nat} {U : List (List Int)} {N : List Int} {v : Adr} {gG gF gH pf ph : Nat} {f h : Fm} (H : SameI w g U N v gG gF gH pf ph f h) (hb : Below w.heap.size w w1) : SameI w1 g U N v gG gF gH pf ph f h where
  view := H.view.below hb
  bG := blk_below H.bG hb
  bF := blk_below H.bF hb
  bH := blk_below H.bH hb
  tf := FAt.below hb _ _ H.tf
  th := FAt.below hb _ _ H.th
def sameT (U : List (List Int)) (N : List Int) (f h : Fm) (a b c : Int) : Bool := valF U N a b c f == valF U N a b c h
def sameB (U : List (List Int)) (N : List Int) (f h : Fm) : Bool := allN U.length fun a => allN U.length fun b => allN U.length fun c => sameT U N f h a b c
def impl_SameOk_1.T4 : Bool × List (List Nat × List Nat) := (true, [([], []), ([], []), ([], []), ([], []), ([], []), ([2, 3, 4], [2, 3, 4]), ([0, 1, 5], [0, 1, 5]), ([], []), ([], []), ([], []), ([], []), ([], []), ([9, 10, 11], [9, 10, 11]), ([7, 8, 12, 6], [7, 8, 12]), ([6, 13], [6, 13])])
def impl_SameOk_1.B4 : List Nat := [0, 0, 0, 0, 0, 28, 63, 0, 0, 0, 0, 0, 3584, 8191, 16383]
theorem impl_SameOk_1.tab4 : rtab .any (opsOf Try.f75 4) = impl_SameOk_1.T4 := by kernel_rfl
theorem impl_SameOk_1.bits4 : waitsOk impl_SameOk_1.T4.2 impl_SameOk_1.B4 = true := by kernel_rfl
set_option maxHeartbeats 4000000 in
set_option maxRecDepth 100000 in
theorem same_c1 (g : Nat) (U : List (List Int)) (N : List Int) (v : Adr) (w : World) (L : Logic U N) (gG gF gH pf ph : Nat) (f h : Fm) (of : f.ok) (oh : h.ok) (a b : Int) (ia : In U a) (ib : In U b) (hI : SameI w g U N v gG gF gH pf ph f h) :
    Calls Try.prog 75 #[.int .i64 a, .int .i64 b, .pointer (some ⟨gG, 0, none⟩), .pointer (some ⟨gF, 0, none⟩), .pointer (some ⟨gH, 0, none⟩)] w fun e w' => e = .returned (.bool (allN U.length fun c => sameT U N f h a b c)) ∧ Below w.heap.size w w' := by
  obtain ⟨r, hr⟩ : ∃ r, r = allN U.length fun c => sameT U N f h a b c := ⟨_, rfl⟩
  rw [← hr]
  have hu70 := Try.underlying81
  have HR := Aside0.mk hr
  have HLg := Aside0.mk L
  have HSM := Aside0.mk L.small
  have OF := Aside0.mk of
  have OH := Aside0.mk oh
  have Ia := Aside0.mk ia
  have Ib := Aside0.mk ib
  have HI0 := Aside0.mk hI
  have hg0 : w.cell? ⟨gG, 0, none⟩ = some (.pointer (some ⟨g, 0, none⟩)) := (blk_cell hI.bG 0).trans rfl
  have hf0 := hI.view.f0
  clear hr L of oh ia ib hI
  go_enter Try.func75, Try.ntmps75
  go_wp2_with fail
  go_loopg [14] (U.length + 1) (fun kq v14 W => ∃ i : Nat, v14 = .int .i64 i ∧ Aside0 (i + kq = U.length + 1) ∧ Aside0 (i ≤ U.length) ∧ Aside0 (∀ c : Nat, c < i → sameT U N f h a b c = true) ∧ Aside0 (SameI W g U N v gG gF gH pf ph f h) ∧ Aside0 (Below w.heap.size w W))
  case atStart => exact ⟨0, rfl, ⟨by omega⟩, ⟨by omega⟩, ⟨fun j hj => absurd hj (by omega)⟩, ⟨by first | exact HI0.out | exact HI0.out.below (pw_below_drewN (Below.refl _ _) _)⟩, ⟨by repeat (first | exact Below.refl _ _ | apply pw_below_drewN | apply below_drew1)⟩⟩
  case round =>
    clear hg0 hf0 HI0
    obtain ⟨i, rfl, HK, HK2, HS, HI, HB⟩ := hrel
    have hg0 := (blk_cell HI.out.bG 0).trans rfl
    have hf0 := HI.out.view.f0
    cases gk with
    | zero => exact absurd HK.out (by have := HK2.out; omega)
    | succ kn =>
    by_cases hlt : i < U.length
    · have hlt' : decide (i < U.length) = true := decide_eq_true hlt
      have HLT := Aside0.mk hlt
      have Ic := Aside0.mk (show In U (i : Int) from ⟨by omega, by omega⟩)
      clear hlt
      obtain ⟨x, hx⟩ : ∃ x, valF U N a b i f = x := ⟨_, rfl⟩
      obtain ⟨y, hy⟩ : ∃ y, valF U N a b i h = y := ⟨_, rfl⟩
      have hT : sameT U N f h a b i = (x == y) := by rw [← hx, ← hy]; rfl
      have HX := Aside0.mk hx
      have HY := Aside0.mk hy
      clear hx hy
      by_cases hxy : x = y
      · have HT := Aside0.mk (show sameT U N f h a b i = true by rw [hT, hxy]; simp)
        have q1 : (x != y) = false := by rw [hxy]; simp
        clear hT hxy
        go_wp2_with fail
        have HI1 := Aside0.mk (HI.out.below (below_drew1 (Below.refl _ _)))
        have HB1 := Aside0.mk (below_drew1 HB.out)
        clear hg0 hf0 HI HB
        refine start_ (n := 15) (S := (fun w' => w'.cell? ⟨gG, 0, none⟩ = some (.pointer (some ⟨g, 0, none⟩)) ∧ w'.cell? ⟨gF, 0, none⟩ = some (.pointer (some ⟨pf, 0, none⟩)) ∧ w'.cell? ⟨gH, 0, none⟩ = some (.pointer (some ⟨ph, 0, none⟩)))) (ds := []) #[false, false, false, false, false, false, false, false, false, false, false, false, false, false, false] (by kernel_rfl) rfl rfl ⟨(blk_cell HI1.out.bG 0).trans rfl, (blk_cell HI1.out.bF 0).trans rfl, (blk_cell HI1.out.bH 0).trans rfl⟩ (fun hHeld => ?_)
        refine with_tabW impl_SameOk_1.tab4 impl_SameOk_1.bits4 (fun HT_ HW_ => ?_)
        generalize World.drew _ = w1 at hHeld HI1 HB1 ⊢
        refine take_ (i := 0) (N := some 17) (v := ?_) (a' := ?_) #[true, false, false, false, false, false, false, false, false, false, false, false, false, false, false] rfl rfl (take_ofW HT_.out HW_.out (by kernel_rfl)) (fun _ _ _ h => h) (Or.inl ⟨by rfl, ?_⟩) hHeld ?_ ?_
        rotate_left
        · rintro w' ⟨t0, t1, t2⟩; go_simp; with_reducible rfl
        rotate_left
        · simp only [Act.put, List.setIfInBounds_toArray, List.set_cons_zero, List.set_cons_succ, i64_w, i32_w]; rfl
        refine take_ (i := 1) (N := some 18) (v := ?_) (a' := ?_) #[true, true, false, false, false, false, false, false, false, false, false, false, false, false, false] rfl rfl (take_ofW HT_.out HW_.out (by kernel_rfl)) (fun _ _ _ h => h) (Or.inl ⟨by rfl, ?_⟩) hHeld ?_ ?_
        rotate_left
        · rintro w' ⟨t0, t1, t2⟩; go_simp; with_reducible rfl
        rotate_left
        · simp only [Act.put, List.setIfInBounds_toArray, List.set_cons_zero, List.set_cons_succ, i64_w, i32_w]; rfl
        refine pure_ (i := 2) (N := some 19) (v := ?_) (a' := ?_) #[true, true, true, false, false, false, false, false, false, false, false, false, false, false, false] rfl rfl (any_of HT_.out (by kernel_rfl)) (fun _ _ _ h => h) (Or.inl ⟨by rfl, ?_⟩) ?_ ?_
        rotate_left
        · intro w'; go_simp; with_reducible rfl
        rotate_left
        · simp only [Act.put, List.setIfInBounds_toArray, List.set_cons_zero, List.set_cons_succ, i64_w, i32_w]; rfl
        refine pure_ (i := 3) (N := some 20) (v := ?_) (a' := ?_) #[true, true, true, true, false, false, false, false, false, false, false, false, false, false, false] rfl rfl (any_of HT_.out (by kernel_rfl)) (fun _ _ _ h => h) (Or.inl ⟨by rfl, ?_⟩) ?_ ?_
        rotate_left
        · intro w'; go_simp; with_reducible rfl
        rotate_left
        · simp only [Act.put, List.setIfInBounds_toArray, List.set_cons_zero, List.set_cons_succ, i64_w, i32_w]; rfl
        refine pure_ (i := 4) (N := some 21) (v := ?_) (a' := ?_) #[true, true, true, true, true, false, false, false, false, false, false, false, false, false, false] rfl rfl (any_of HT_.out (by kernel_rfl)) (fun _ _ _ h => h) (Or.inl ⟨by rfl, ?_⟩) ?_ ?_
        rotate_left
        · intro w'; go_simp; with_reducible rfl
        rotate_left
        · simp only [Act.put, List.setIfInBounds_toArray, List.set_cons_zero, List.set_cons_succ, i64_w, i32_w]; rfl
        refine pure_ (i := 5) (N := some 22) (v := ?_) (a' := ?_) #[true, true, true, true, true, true, false, false, false, false, false, false, false, false, false] rfl rfl (any_of HT_.out (by kernel_rfl)) (fun _ _ _ h => h) (Or.inl ⟨by rfl, ?_⟩) ?_ ?_
        rotate_left
        · intro w'; go_simp; with_reducible rfl
        rotate_left
        · simp only [Act.put, List.setIfInBounds_toArray, List.set_cons_zero, List.set_cons_succ, i64_w, i32_w]; rfl
        refine take_ (i := 7) (N := some 24) (v := ?_) (a' := ?_) #[true, true, true, true, true, true, false, true, false, false, false, false, false, false, false] rfl rfl (take_ofW HT_.out HW_.out (by kernel_rfl)) (fun _ _ _ h => h) (Or.inl ⟨by rfl, ?_⟩) hHeld ?_ ?_
        rotate_left
        · rintro w' ⟨t0, t1, t2⟩; go_simp; with_reducible rfl
        rotate_left
        · simp only [Act.put, List.setIfInBounds_toArray, List.set_cons_zero, List.set_cons_succ, i64_w, i32_w]; rfl
        refine take_ (i := 8) (N := some 25) (v := ?_) (a' := ?_) #[true, true, true, true, true, true, false, true, true, false, false, false, false, false, false] rfl rfl (take_ofW HT_.out HW_.out (by kernel_rfl)) (fun _ _ _ h => h) (Or.inl ⟨by rfl, ?_⟩) hHeld ?_ ?_
        rotate_left
        · rintro w' ⟨t0, t1, t2⟩; go_simp; with_reducible rfl
        rotate_left
        · simp only [Act.put, List.setIfInBounds_toArray, List.set_cons_zero, List.set_cons_succ, i64_w, i32_w]; rfl
        refine pure_ (i := 9) (N := some 26) (v := ?_) (a' := ?_) #[true, true, true, true, true, true, false, true, true, true, false, false, false, false, false] rfl rfl (any_of HT_.out (by kernel_rfl)) (fun _ _ _ h => h) (Or.inl ⟨by rfl, ?_⟩) ?_ ?_
        rotate_left
        · intro w'; go_simp; with_reducible rfl
        rotate_left
        · simp only [Act.put, List.setIfInBounds_toArray, List.set_cons_zero, List.set_cons_succ, i64_w, i32_w]; rfl
        refine pure_ (i := 10) (N := some 27) (v := ?_) (a' := ?_) #[true, true, true, true, true, true, false, true, true, true, true, false, false, false, false] rfl rfl (any_of HT_.out (by kernel_rfl)) (fun _ _ _ h => h) (Or.inl ⟨by rfl, ?_⟩) ?_ ?_
        rotate_left
        · intro w'; go_simp; with_reducible rfl
        rotate_left
        · simp only [Act.put, List.setIfInBounds_toArray, List.set_cons_zero, List.set_cons_succ, i64_w, i32_w]; rfl
        refine pure_ (i := 11) (N := some 28) (v := ?_) (a' := ?_) #[true, true, true, true, true, true, false, true, true, true, true, true, false, false, false] rfl rfl (any_of HT_.out (by kernel_rfl)) (fun _ _ _ h => h) (Or.inl ⟨by rfl, ?_⟩) ?_ ?_
        rotate_left
        · intro w'; go_simp; with_reducible rfl
        rotate_left
        · simp only [Act.put, List.setIfInBounds_toArray, List.set_cons_zero, List.set_cons_succ, i64_w, i32_w]; rfl
        refine pure_ (i := 12) (N := some 29) (v := ?_) (a' := ?_) #[true, true, true, true, true, true, false, true, true, true, true, true, true, false, false] rfl rfl (any_of HT_.out (by kernel_rfl)) (fun _ _ _ h => h) (Or.inl ⟨by rfl, ?_⟩) ?_ ?_
        rotate_left
        · intro w'; go_simp; with_reducible rfl
        rotate_left
        · simp only [Act.put, List.setIfInBounds_toArray, List.set_cons_zero, List.set_cons_succ, i64_w, i32_w]; rfl
        refine one_ (i := 6) (N := some 23) #[true, true, true, true, true, true, true, true, true, true, true, true, true, false, false] rfl rfl (one_of HT_.out (by kernel_rfl)) (by decide) (fun K hK => ?_)
        refine goes_ Try.func74 (by kernel_rfl) rfl #[.pointer (some ⟨g, 0, none⟩), .pointer (some ⟨pf, 0, none⟩), .agg #[.int .i64 a, .int .i64 b, .int .i64 (i : Int)]] (by rfl) rfl rfl (by (try simp only [List.map_toArray, List.map_cons, List.map_nil]); first | done | rfl) ?_
        refine (value_calls g U N v HLg.out a b (i : Int) Ia.out Ib.out Ic.out f pf w1 HI1.out.view HI1.out.tf OF.out).mono ?_
        rintro e w2 ⟨he, hb⟩
        rw [HX.out] at he
        subst he
        refine ⟨_, rfl, ?_⟩
        have HI2 := Aside0.mk (HI1.out.below hb)
        have HB2 := Aside0.mk (below_step HB1.out hb)
        refine hK.out _ _ ⟨(blk_cell HI2.out.bG 0).trans rfl, (blk_cell HI2.out.bF 0).trans rfl, (blk_cell HI2.out.bH 0).trans rfl⟩ (fun hHeld2 => ?_)
        clear hK K hb HI1 HB1
        refine norm_ (a' := ?_) ?_ ?_
        rotate_left
        · show Act.put _ (some 23) _ = _
          simp only [Act.put, List.setIfInBounds_toArray, List.set_cons_zero, List.set_cons_succ, i64_w, i32_w]
          rfl
        refine one_ (i := 13) (N := some 30) #[true, true, true, true, true, true, true, true, true, true, true, true, true, true, false] rfl rfl (one_of HT_.out (by kernel_rfl)) (by decide) (fun K hK => ?_)
        refine goes_ Try.func74 (by kernel_rfl) rfl #[.pointer (some ⟨g, 0, none⟩), .pointer (some ⟨ph, 0, none⟩), .agg #[.int .i64 a, .int .i64 b, .int .i64 (i : Int)]] (by rfl) rfl rfl (by (try simp only [List.map_toArray, List.map_cons, List.map_nil]); first | done | rfl) ?_
        refine (value_calls g U N v HLg.out a b (i : Int) Ia.out Ib.out Ic.out h ph w2 HI2.out.view HI2.out.th OH.out).mono ?_
        rintro e w3 ⟨he, hb⟩
        rw [HY.out] at he
        subst he
        refine ⟨_, rfl, ?_⟩
        have HI3 := Aside0.mk (HI2.out.below hb)
        have HB3 := Aside0.mk (below_step HB2.out hb)
        refine hK.out _ _ ⟨(blk_cell HI3.out.bG 0).trans rfl, (blk_cell HI3.out.bF 0).trans rfl, (blk_cell HI3.out.bH 0).trans rfl⟩ (fun hHeld3 => ?_)
        clear hK K hb HI2 HB2
        refine norm_ (a' := ?_) ?_ ?_
        rotate_left
        · show Act.put _ (some 30) _ = _
          simp only [Act.put, List.setIfInBounds_toArray, List.set_cons_zero, List.set_cons_succ, i64_w, i32_w]
          rfl
        refine pure_ (i := 14) (N := some 31) (v := ?_) (a' := ?_) #[true, true, true, true, true, true, true, true, true, true, true, true, true, true, true] rfl rfl (any_of HT_.out (by kernel_rfl)) (fun _ _ _ h => h) (Or.inl ⟨by rfl, ?_⟩) ?_ ?_
        rotate_left
        · intro w'; go_simp; with_reducible rfl
        rotate_left
        · simp only [Act.put, List.setIfInBounds_toArray, List.set_cons_zero, List.set_cons_succ, i64_w, i32_w]; rfl
        refine done_ (done_of HT_.out (by kernel_rfl)) ?_
        go_wp2
        go_roundg kn
        case measure => omega
        case rel => exact ⟨i + 1, by first | go_num | (rw [wrap_small (by omega) (by have := HLT.out; have := HSM.out; omega)]; go_num), ⟨by have := HK.out; omega⟩, ⟨by have := HLT.out; omega⟩, ⟨fun c hc => by
          rcases Nat.lt_or_ge c i with h | h
          · exact HS.out c h
          · obtain rfl : c = i := by omega
            exact HT.out⟩, ⟨by first | exact HI3.out | exact HI3.out.below (pw_below_drewN (Below.refl _ _) _)⟩, ⟨by repeat (first | exact HB3.out | apply pw_below_drewN | apply below_drew1)⟩⟩
      · have hrf : r = false := by
          rw [HR.out]
          exact allN_false.2 ⟨i, HLT.out, by rw [hT, beq_eq_false_iff_ne]; exact hxy⟩
        subst hrf
        have q1 : (x != y) = true := bne_iff_ne.2 hxy
        clear hT hxy
        go_wp2_with fail
        have HI1 := Aside0.mk (HI.out.below (below_drew1 (Below.refl _ _)))
        have HB1 := Aside0.mk (below_drew1 HB.out)
        clear hg0 hf0 HI HB
        refine start_ (n := 15) (S := (fun w' => w'.cell? ⟨gG, 0, none⟩ = some (.pointer (some ⟨g, 0, none⟩)) ∧ w'.cell? ⟨gF, 0, none⟩ = some (.pointer (some ⟨pf, 0, none⟩)) ∧ w'.cell? ⟨gH, 0, none⟩ = some (.pointer (some ⟨ph, 0, none⟩)))) (ds := []) #[false, false, false, false, false, false, false, false, false, false, false, false, false, false, false] (by kernel_rfl) rfl rfl ⟨(blk_cell HI1.out.bG 0).trans rfl, (blk_cell HI1.out.bF 0).trans rfl, (blk_cell HI1.out.bH 0).trans rfl⟩ (fun hHeld => ?_)
        refine with_tabW impl_SameOk_1.tab4 impl_SameOk_1.bits4 (fun HT_ HW_ => ?_)
        generalize World.drew _ = w1 at hHeld HI1 HB1 ⊢
        refine take_ (i := 0) (N := some 17) (v := ?_) (a' := ?_) #[true, false, false, false, false, false, false, false, false, false, false, false, false, false, false] rfl rfl (take_ofW HT_.out HW_.out (by kernel_rfl)) (fun _ _ _ h => h) (Or.inl ⟨by rfl, ?_⟩) hHeld ?_ ?_
        rotate_left
        · rintro w' ⟨t0, t1, t2⟩; go_simp; with_reducible rfl
        rotate_left
        · simp only [Act.put, List.setIfInBounds_toArray, List.set_cons_zero, List.set_cons_succ, i64_w, i32_w]; rfl
        refine take_ (i := 1) (N := some 18) (v := ?_) (a' := ?_) #[true, true, false, false, false, false, false, false, false, false, false, false, false, false, false] rfl rfl (take_ofW HT_.out HW_.out (by kernel_rfl)) (fun _ _ _ h => h) (Or.inl ⟨by rfl, ?_⟩) hHeld ?_ ?_
        rotate_left
        · rintro w' ⟨t0, t1, t2⟩; go_simp; with_reducible rfl
        rotate_left
        · simp only [Act.put, List.setIfInBounds_toArray, List.set_cons_zero, List.set_cons_succ, i64_w, i32_w]; rfl
        refine pure_ (i := 2) (N := some 19) (v := ?_) (a' := ?_) #[true, true, true, false, false, false, false, false, false, false, false, false, false, false, false] rfl rfl (any_of HT_.out (by kernel_rfl)) (fun _ _ _ h => h) (Or.inl ⟨by rfl, ?_⟩) ?_ ?_
        rotate_left
        · intro w'; go_simp; with_reducible rfl
        rotate_left
        · simp only [Act.put, List.setIfInBounds_toArray, List.set_cons_zero, List.set_cons_succ, i64_w, i32_w]; rfl
        refine pure_ (i := 3) (N := some 20) (v := ?_) (a' := ?_) #[true, true, true, true, false, false, false, false, false, false, false, false, false, false, false] rfl rfl (any_of HT_.out (by kernel_rfl)) (fun _ _ _ h => h) (Or.inl ⟨by rfl, ?_⟩) ?_ ?_
        rotate_left
        · intro w'; go_simp; with_reducible rfl
        rotate_left
        · simp only [Act.put, List.setIfInBounds_toArray, List.set_cons_zero, List.set_cons_succ, i64_w, i32_w]; rfl
        refine pure_ (i := 4) (N := some 21) (v := ?_) (a' := ?_) #[true, true, true, true, true, false, false, false, false, false, false, false, false, false, false] rfl rfl (any_of HT_.out (by kernel_rfl)) (fun _ _ _ h => h) (Or.inl ⟨by rfl, ?_⟩) ?_ ?_
        rotate_left
        · intro w'; go_simp; with_reducible rfl
        rotate_left
        · simp only [Act.put, List.setIfInBounds_toArray, List.set_cons_zero, List.set_cons_succ, i64_w, i32_w]; rfl
        refine pure_ (i := 5) (N := some 22) (v := ?_) (a' := ?_) #[true, true, true, true, true, true, false, false, false, false, false, false, false, false, false] rfl rfl (any_of HT_.out (by kernel_rfl)) (fun _ _ _ h => h) (Or.inl ⟨by rfl, ?_⟩) ?_ ?_
        rotate_left
        · intro w'; go_simp; with_reducible rfl
        rotate_left
        · simp only [Act.put, List.setIfInBounds_toArray, List.set_cons_zero, List.set_cons_succ, i64_w, i32_w]; rfl
        refine take_ (i := 7) (N := some 24) (v := ?_) (a' := ?_) #[true, true, true, true, true, true, false, true, false, false, false, false, false, false, false] rfl rfl (take_ofW HT_.out HW_.out (by kernel_rfl)) (fun _ _ _ h => h) (Or.inl ⟨by rfl, ?_⟩) hHeld ?_ ?_
        rotate_left
        · rintro w' ⟨t0, t1, t2⟩; go_simp; with_reducible rfl
        rotate_left
        · simp only [Act.put, List.setIfInBounds_toArray, List.set_cons_zero, List.set_cons_succ, i64_w, i32_w]; rfl
        refine take_ (i := 8) (N := some 25) (v := ?_) (a' := ?_) #[true, true, true, true, true, true, false, true, true, false, false, false, false, false, false] rfl rfl (take_ofW HT_.out HW_.out (by kernel_rfl)) (fun _ _ _ h => h) (Or.inl ⟨by rfl, ?_⟩) hHeld ?_ ?_
        rotate_left
        · rintro w' ⟨t0, t1, t2⟩; go_simp; with_reducible rfl
        rotate_left
        · simp only [Act.put, List.setIfInBounds_toArray, List.set_cons_zero, List.set_cons_succ, i64_w, i32_w]; rfl
        refine pure_ (i := 9) (N := some 26) (v := ?_) (a' := ?_) #[true, true, true, true, true, true, false, true, true, true, false, false, false, false, false] rfl rfl (any_of HT_.out (by kernel_rfl)) (fun _ _ _ h => h) (Or.inl ⟨by rfl, ?_⟩) ?_ ?_
        rotate_left
        · intro w'; go_simp; with_reducible rfl
        rotate_left
        · simp only [Act.put, List.setIfInBounds_toArray, List.set_cons_zero, List.set_cons_succ, i64_w, i32_w]; rfl
        refine pure_ (i := 10) (N := some 27) (v := ?_) (a' := ?_) #[true, true, true, true, true, true, false, true, true, true, true, false, false, false, false] rfl rfl (any_of HT_.out (by kernel_rfl)) (fun _ _ _ h => h) (Or.inl ⟨by rfl, ?_⟩) ?_ ?_
        rotate_left
        · intro w'; go_simp; with_reducible rfl
        rotate_left
        · simp only [Act.put, List.setIfInBounds_toArray, List.set_cons_zero, List.set_cons_succ, i64_w, i32_w]; rfl
        refine pure_ (i := 11) (N := some 28) (v := ?_) (a' := ?_) #[true, true, true, true, true, true, false, true, true, true, true, true, false, false, false] rfl rfl (any_of HT_.out (by kernel_rfl)) (fun _ _ _ h => h) (Or.inl ⟨by rfl, ?_⟩) ?_ ?_
        rotate_left
        · intro w'; go_simp; with_reducible rfl
        rotate_left
        · simp only [Act.put, List.setIfInBounds_toArray, List.set_cons_zero, List.set_cons_succ, i64_w, i32_w]; rfl
        refine pure_ (i := 12) (N := some 29) (v := ?_) (a' := ?_) #[true, true, true, true, true, true, false, true, true, true, true, true, true, false, false] rfl rfl (any_of HT_.out (by kernel_rfl)) (fun _ _ _ h => h) (Or.inl ⟨by rfl, ?_⟩) ?_ ?_
        rotate_left
        · intro w'; go_simp; with_reducible rfl
        rotate_left
        · simp only [Act.put, List.setIfInBounds_toArray, List.set_cons_zero, List.set_cons_succ, i64_w, i32_w]; rfl
        refine one_ (i := 6) (N := some 23) #[true, true, true, true, true, true, true, true, true, true, true, true, true, false, false] rfl rfl (one_of HT_.out (by kernel_rfl)) (by decide) (fun K hK => ?_)
        refine goes_ Try.func74 (by kernel_rfl) rfl #[.pointer (some ⟨g, 0, none⟩), .pointer (some ⟨pf, 0, none⟩), .agg #[.int .i64 a, .int .i64 b, .int .i64 (i : Int)]] (by rfl) rfl rfl (by (try simp only [List.map_toArray, List.map_cons, List.map_nil]); first | done | rfl) ?_
        refine (value_calls g U N v HLg.out a b (i : Int) Ia.out Ib.out Ic.out f pf w1 HI1.out.view HI1.out.tf OF.out).mono ?_
        rintro e w2 ⟨he, hb⟩
        rw [HX.out] at he
        subst he
        refine ⟨_, rfl, ?_⟩
        have HI2 := Aside0.mk (HI1.out.below hb)
        have HB2 := Aside0.mk (below_step HB1.out hb)
        refine hK.out _ _ ⟨(blk_cell HI2.out.bG 0).trans rfl, (blk_cell HI2.out.bF 0).trans rfl, (blk_cell HI2.out.bH 0).trans rfl⟩ (fun hHeld2 => ?_)
        clear hK K hb HI1 HB1
        refine norm_ (a' := ?_) ?_ ?_
        rotate_left
        · show Act.put _ (some 23) _ = _
          simp only [Act.put, List.setIfInBounds_toArray, List.set_cons_zero, List.set_cons_succ, i64_w, i32_w]
          rfl
        refine one_ (i := 13) (N := some 30) #[true, true, true, true, true, true, true, true, true, true, true, true, true, true, false] rfl rfl (one_of HT_.out (by kernel_rfl)) (by decide) (fun K hK => ?_)
        refine goes_ Try.func74 (by kernel_rfl) rfl #[.pointer (some ⟨g, 0, none⟩), .pointer (some ⟨ph, 0, none⟩), .agg #[.int .i64 a, .int .i64 b, .int .i64 (i : Int)]] (by rfl) rfl rfl (by (try simp only [List.map_toArray, List.map_cons, List.map_nil]); first | done | rfl) ?_
        refine (value_calls g U N v HLg.out a b (i : Int) Ia.out Ib.out Ic.out h ph w2 HI2.out.view HI2.out.th OH.out).mono ?_
        rintro e w3 ⟨he, hb⟩
        rw [HY.out] at he
        subst he
        refine ⟨_, rfl, ?_⟩
        have HI3 := Aside0.mk (HI2.out.below hb)
        have HB3 := Aside0.mk (below_step HB2.out hb)
        refine hK.out _ _ ⟨(blk_cell HI3.out.bG 0).trans rfl, (blk_cell HI3.out.bF 0).trans rfl, (blk_cell HI3.out.bH 0).trans rfl⟩ (fun hHeld3 => ?_)
        clear hK K hb HI2 HB2
        refine norm_ (a' := ?_) ?_ ?_
        rotate_left
        · show Act.put _ (some 30) _ = _
          simp only [Act.put, List.setIfInBounds_toArray, List.set_cons_zero, List.set_cons_succ, i64_w, i32_w]
          rfl
        refine pure_ (i := 14) (N := some 31) (v := ?_) (a' := ?_) #[true, true, true, true, true, true, true, true, true, true, true, true, true, true, true] rfl rfl (any_of HT_.out (by kernel_rfl)) (fun _ _ _ h => h) (Or.inl ⟨by rfl, ?_⟩) ?_ ?_
        rotate_left
        · intro w'; go_simp; with_reducible rfl
        rotate_left
        · simp only [Act.put, List.setIfInBounds_toArray, List.set_cons_zero, List.set_cons_succ, i64_w, i32_w]; rfl
        refine done_ (done_of HT_.out (by kernel_rfl)) ?_
        go_wp2
        go_ret
        exact ⟨rfl, by repeat (first | exact HB3.out | apply pw_below_drewN | apply below_drew1)⟩
    · have hlt' : decide (i < U.length) = false := decide_eq_false hlt
      obtain rfl : i = U.length := by have := HK2.out; omega
      have hrt : r = true := by
        rw [HR.out, allN_iff]
        intro c hc
        exact HS.out c hc
      subst hrt
      clear hlt
      go_wp2_with fail
      go_ret
      exact ⟨rfl, by repeat (first | exact HB.out | apply pw_below_drewN | apply below_drew1)⟩
end Go.Proofs.Ythideghgdmokkaa.Print
end
section
namespace Go.Proofs.Ythideghgdmokkaa.Print
open Go.RowKit Go.Proofs.YthideghgdmokkaaW.PrintWords Go.Proofs.YthideghgdmokkaaW.PrintLast Go.Proofs.YthideghgdmokkaaW.PrintMore
set_option linter.unusedVariables false
set_option linter.unusedSimpArgs false
open Oml
def sameO (U : List (List Int)) (N : List Int) : Option Fm → Option Fm → Bool
  | some f, some h => logicB U N && sameB U N f h
  | _, _ => false
theorem same_start (W : World) {g : Nat} {U : List (List Int)} {N : List Int} {v : Adr} {pf ph : Nat} {f h : Fm} (hV : View W g U N v) (hf : FAt W pf f) (hh : FAt W ph h) :
    SameI (((W.alloc (.cells #[.pointer (some ⟨g, 0, none⟩)] 73)).alloc (.cells #[.pointer (some ⟨pf, 0, none⟩)] 84)).alloc (.cells #[.pointer (some ⟨ph, 0, none⟩)] 84)) g U N v W.heap.size (W.heap.size + 1) (W.heap.size + 1 + 1) pf ph f h := by
  have h2 := blk2 W (.cells #[.pointer (some ⟨g, 0, none⟩)] 73) (.cells #[.pointer (some ⟨pf, 0, none⟩)] 84)
  have h3 := (MapKept.heap_alloc ((W.alloc (.cells #[.pointer (some ⟨g, 0, none⟩)] 73)).alloc (.cells #[.pointer (some ⟨pf, 0, none⟩)] 84)) (.cells #[.pointer (some ⟨ph, 0, none⟩)] 84)).1
  rw [size_al, size_al] at h3
  have hb : Below W.heap.size W (((W.alloc (.cells #[.pointer (some ⟨g, 0, none⟩)] 73)).alloc (.cells #[.pointer (some ⟨pf, 0, none⟩)] 84)).alloc (.cells #[.pointer (some ⟨ph, 0, none⟩)] 84)) := below_alloc (below_alloc (below_alloc (Below.refl _ _) _) _) _
  exact { view := hV.below hb, bG := blk_alloc h2.2 _, bF := blk_alloc h2.1 _, bH := h3, tf := FAt.below hb _ _ hf, th := FAt.below hb _ _ hh }
def impl_SameOk.f (l0_0 : List (List Int)) (l0_1 : List Int) (a1 : ByteArray) (a2 : ByteArray) : Option (Bool) := some (sameO l0_0 l0_1 (fmOf a1) (fmOf a2))
set_option maxHeartbeats 4000000 in
set_option maxRecDepth 100000 in
theorem impl_SameOk.calls (A0_0 : Option Addr) (c0_0 : Nat) (l0_0 : List (List Int)) (A0_1 : Option Addr) (c0_1 : Nat) (l0_1 : List Int) (a1 : ByteArray) (a2 : ByteArray) (r : Bool) (w : World) (hr0_0 : Kd.C (Kd.slice 3 (Kd.int .i64)) w A0_0 l0_0.length l0_0) (hc0_0 : l0_0.length ≤ c0_0) (hr0_1 : Kd.C (Kd.int .i64) w A0_1 l0_1.length l0_1) (hc0_1 : l0_1.length ≤ c0_1) (h : impl_SameOk.f l0_0 l0_1 a1 a2 = some r) :
    Calls Try.prog 32 #[.agg #[.slice A0_0 l0_0.length c0_0, .slice A0_1 l0_1.length c0_1], .string a1, .string a2] w fun e w' => e = .returned (.bool r) ∧ Below w.heap.size w w' := by
  obtain ⟨k, hF⟩ := told_facts l0_0
  have hu30 := Try.underlying28
  have hu70 := Try.underlying81
  have HF := Aside0.mk hF
  have HR0 := Aside0.mk hr0_0
  have HC0 := Aside0.mk hc0_0
  have HR1 := Aside0.mk hr0_1
  have HC1 := Aside0.mk hc0_1
  simp only [impl_SameOk.f, Option.some.injEq] at h
  clear hr0_0 hc0_0 hr0_1 hc0_1 hF
  cases hL : logicB l0_0 l0_1 with
  | false =>
    cases h1 : fmOf a1 with
    | none =>
      cases h2 : fmOf a2 with
      | none =>
        have HLB := Aside0.mk hL
        have HF1 := Aside0.mk h1
        have HF2 := Aside0.mk h2
        rw [h1, h2] at h
        have hr_ : false = r := by rw [← h]; simp [sameO, hL]
        subst hr_
        clear h hL h1 h2
        go_enter Try.func32, Try.ntmps32
        go_wp2_with (first | ((with_reducible refine gate_dst (N := 3) rfl ?_); refine box_event ?hg (N := 3) ?hd (cs := #[.slice A0_0 l0_0.length c0_0, .slice A0_1 l0_1.length c0_1]) (t := 28) ?hr ?_; (case hd => rfl); (case hg => rfl); (case hr => first | (go_simp; done) | (go_simp; rfl)); intro gb hg_ w1 hbox hb; have HB := Aside0.mk hb; have hx0 : w1.cell? ⟨gb, 0, none⟩ = some (.slice A0_0 l0_0.length c0_0) := (blk_cell hbox 0).trans rfl; have hx1 : w1.cell? ⟨gb, 1, none⟩ = some (.slice A0_1 l0_1.length c0_1) := (blk_cell hbox 1).trans rfl; have HX := Aside0.mk hbox; clear hbox hb hg_) | (go_at_call 57; (with_reducible refine (told_n k _ _ l0_0 _ _ l0_1 _ ?s1 ?s2 ?s3 ?s4 HF.out HLB.out).mono ?_); (case s1 => exact Kd.C_below HR0.out HB.out); (case s2 => exact HC0.out); (case s3 => exact Kd.C_below HR1.out HB.out); (case s4 => exact HC1.out); rintro e w2 ⟨rfl, hb⟩; have HB2 := Aside0.mk (below_step HB.out hb); clear hb hx0 hx1 HX HB) | (go_at_call 73; (with_reducible refine (formulaOf_calls a1 _).mono ?_); rintro e w3 ⟨hb, hm⟩; rw [HF1.out] at hm; obtain rfl := hm; have HB3 := Aside0.mk (below_step HB2.out hb); clear hb) | (go_at_call 73; (with_reducible refine (formulaOf_calls a2 _).mono ?_); rintro e w4 ⟨hb, hm⟩; rw [HF2.out] at hm; obtain rfl := hm; have HB4 := Aside0.mk (below_step HB3.out hb); clear hb))
        go_ret
        exact ⟨rfl, by repeat (first | exact HB4.out | apply pw_below_drewN | apply below_drew1 | apply below_alloc | apply below_set)⟩
      | some f2 =>
        have HLB := Aside0.mk hL
        have HF1 := Aside0.mk h1
        have HF2 := Aside0.mk h2
        rw [h1, h2] at h
        have hr_ : false = r := by rw [← h]; simp [sameO, hL]
        subst hr_
        clear h hL h1 h2
        go_enter Try.func32, Try.ntmps32
        go_wp2_with (first | ((with_reducible refine gate_dst (N := 3) rfl ?_); refine box_event ?hg (N := 3) ?hd (cs := #[.slice A0_0 l0_0.length c0_0, .slice A0_1 l0_1.length c0_1]) (t := 28) ?hr ?_; (case hd => rfl); (case hg => rfl); (case hr => first | (go_simp; done) | (go_simp; rfl)); intro gb hg_ w1 hbox hb; have HB := Aside0.mk hb; have hx0 : w1.cell? ⟨gb, 0, none⟩ = some (.slice A0_0 l0_0.length c0_0) := (blk_cell hbox 0).trans rfl; have hx1 : w1.cell? ⟨gb, 1, none⟩ = some (.slice A0_1 l0_1.length c0_1) := (blk_cell hbox 1).trans rfl; have HX := Aside0.mk hbox; clear hbox hb hg_) | (go_at_call 57; (with_reducible refine (told_n k _ _ l0_0 _ _ l0_1 _ ?s1 ?s2 ?s3 ?s4 HF.out HLB.out).mono ?_); (case s1 => exact Kd.C_below HR0.out HB.out); (case s2 => exact HC0.out); (case s3 => exact Kd.C_below HR1.out HB.out); (case s4 => exact HC1.out); rintro e w2 ⟨rfl, hb⟩; have HB2 := Aside0.mk (below_step HB.out hb); clear hb hx0 hx1 HX HB) | (go_at_call 73; (with_reducible refine (formulaOf_calls a1 _).mono ?_); rintro e w3 ⟨hb, hm⟩; rw [HF1.out] at hm; obtain rfl := hm; have HB3 := Aside0.mk (below_step HB2.out hb); clear hb) | (go_at_call 73; (with_reducible refine (formulaOf_calls a2 _).mono ?_); rintro e w4 ⟨hb, hm⟩; rw [HF2.out] at hm; obtain ⟨ph, rfl, hf⟩ := hm; have HFph := Aside0.mk hf; have HB4 := Aside0.mk (below_step HB3.out hb); clear hb hf))
        go_ret
        exact ⟨rfl, by repeat (first | exact HB4.out | apply pw_below_drewN | apply below_drew1 | apply below_alloc | apply below_set)⟩
    | some f1 =>
      cases h2 : fmOf a2 with
      | none =>
        have HLB := Aside0.mk hL
        have HF1 := Aside0.mk h1
        have HF2 := Aside0.mk h2
        rw [h1, h2] at h
        have hr_ : false = r := by rw [← h]; simp [sameO, hL]
        subst hr_
        clear h hL h1 h2
        go_enter Try.func32, Try.ntmps32
        go_wp2_with (first | ((with_reducible refine gate_dst (N := 3) rfl ?_); refine box_event ?hg (N := 3) ?hd (cs := #[.slice A0_0 l0_0.length c0_0, .slice A0_1 l0_1.length c0_1]) (t := 28) ?hr ?_; (case hd => rfl); (case hg => rfl); (case hr => first | (go_simp; done) | (go_simp; rfl)); intro gb hg_ w1 hbox hb; have HB := Aside0.mk hb; have hx0 : w1.cell? ⟨gb, 0, none⟩ = some (.slice A0_0 l0_0.length c0_0) := (blk_cell hbox 0).trans rfl; have hx1 : w1.cell? ⟨gb, 1, none⟩ = some (.slice A0_1 l0_1.length c0_1) := (blk_cell hbox 1).trans rfl; have HX := Aside0.mk hbox; clear hbox hb hg_) | (go_at_call 57; (with_reducible refine (told_n k _ _ l0_0 _ _ l0_1 _ ?s1 ?s2 ?s3 ?s4 HF.out HLB.out).mono ?_); (case s1 => exact Kd.C_below HR0.out HB.out); (case s2 => exact HC0.out); (case s3 => exact Kd.C_below HR1.out HB.out); (case s4 => exact HC1.out); rintro e w2 ⟨rfl, hb⟩; have HB2 := Aside0.mk (below_step HB.out hb); clear hb hx0 hx1 HX HB) | (go_at_call 73; (with_reducible refine (formulaOf_calls a1 _).mono ?_); rintro e w3 ⟨hb, hm⟩; rw [HF1.out] at hm; obtain ⟨pf, rfl, hf⟩ := hm; have HFpf := Aside0.mk hf; have HB3 := Aside0.mk (below_step HB2.out hb); clear hb hf) | (go_at_call 73; (with_reducible refine (formulaOf_calls a2 _).mono ?_); rintro e w4 ⟨hb, hm⟩; rw [HF2.out] at hm; obtain rfl := hm; have HB4 := Aside0.mk (below_step HB3.out hb); have HFpf := Aside0.mk (FAt.below hb _ _ HFpf.out); clear hb))
        go_ret
        exact ⟨rfl, by repeat (first | exact HB4.out | apply pw_below_drewN | apply below_drew1 | apply below_alloc | apply below_set)⟩
      | some f2 =>
        have HLB := Aside0.mk hL
        have HF1 := Aside0.mk h1
        have HF2 := Aside0.mk h2
        rw [h1, h2] at h
        have hr_ : false = r := by rw [← h]; simp [sameO, hL]
        subst hr_
        clear h hL h1 h2
        go_enter Try.func32, Try.ntmps32
        go_wp2_with (first | ((with_reducible refine gate_dst (N := 3) rfl ?_); refine box_event ?hg (N := 3) ?hd (cs := #[.slice A0_0 l0_0.length c0_0, .slice A0_1 l0_1.length c0_1]) (t := 28) ?hr ?_; (case hd => rfl); (case hg => rfl); (case hr => first | (go_simp; done) | (go_simp; rfl)); intro gb hg_ w1 hbox hb; have HB := Aside0.mk hb; have hx0 : w1.cell? ⟨gb, 0, none⟩ = some (.slice A0_0 l0_0.length c0_0) := (blk_cell hbox 0).trans rfl; have hx1 : w1.cell? ⟨gb, 1, none⟩ = some (.slice A0_1 l0_1.length c0_1) := (blk_cell hbox 1).trans rfl; have HX := Aside0.mk hbox; clear hbox hb hg_) | (go_at_call 57; (with_reducible refine (told_n k _ _ l0_0 _ _ l0_1 _ ?s1 ?s2 ?s3 ?s4 HF.out HLB.out).mono ?_); (case s1 => exact Kd.C_below HR0.out HB.out); (case s2 => exact HC0.out); (case s3 => exact Kd.C_below HR1.out HB.out); (case s4 => exact HC1.out); rintro e w2 ⟨rfl, hb⟩; have HB2 := Aside0.mk (below_step HB.out hb); clear hb hx0 hx1 HX HB) | (go_at_call 73; (with_reducible refine (formulaOf_calls a1 _).mono ?_); rintro e w3 ⟨hb, hm⟩; rw [HF1.out] at hm; obtain ⟨pf, rfl, hf⟩ := hm; have HFpf := Aside0.mk hf; have HB3 := Aside0.mk (below_step HB2.out hb); clear hb hf) | (go_at_call 73; (with_reducible refine (formulaOf_calls a2 _).mono ?_); rintro e w4 ⟨hb, hm⟩; rw [HF2.out] at hm; obtain ⟨ph, rfl, hf⟩ := hm; have HFph := Aside0.mk hf; have HB4 := Aside0.mk (below_step HB3.out hb); have HFpf := Aside0.mk (FAt.below hb _ _ HFpf.out); clear hb hf))
        go_ret
        exact ⟨rfl, by repeat (first | exact HB4.out | apply pw_below_drewN | apply below_drew1 | apply below_alloc | apply below_set)⟩
  | true =>
    cases h1 : fmOf a1 with
    | none =>
      cases h2 : fmOf a2 with
      | none =>
        have HLB := Aside0.mk hL
        have HF1 := Aside0.mk h1
        have HF2 := Aside0.mk h2
        rw [h1, h2] at h
        have hr_ : false = r := by rw [← h]; simp [sameO, hL]
        subst hr_
        clear h hL h1 h2
        go_enter Try.func32, Try.ntmps32
        go_wp2_with (first | ((with_reducible refine gate_dst (N := 3) rfl ?_); refine box_event ?hg (N := 3) ?hd (cs := #[.slice A0_0 l0_0.length c0_0, .slice A0_1 l0_1.length c0_1]) (t := 28) ?hr ?_; (case hd => rfl); (case hg => rfl); (case hr => first | (go_simp; done) | (go_simp; rfl)); intro gb hg_ w1 hbox hb; have HB := Aside0.mk hb; have hx0 : w1.cell? ⟨gb, 0, none⟩ = some (.slice A0_0 l0_0.length c0_0) := (blk_cell hbox 0).trans rfl; have hx1 : w1.cell? ⟨gb, 1, none⟩ = some (.slice A0_1 l0_1.length c0_1) := (blk_cell hbox 1).trans rfl; have HX := Aside0.mk hbox; clear hbox hb hg_) | (go_at_call 57; (with_reducible refine (told_y k _ _ l0_0 _ _ l0_1 _ ?s1 ?s2 ?s3 ?s4 HF.out HLB.out).mono ?_); (case s1 => exact Kd.C_below HR0.out HB.out); (case s2 => exact HC0.out); (case s3 => exact Kd.C_below HR1.out HB.out); (case s4 => exact HC1.out); rintro e w2 ⟨g, v, rfl, hv, hge, hb⟩; have HB2 := Aside0.mk (below_step HB.out hb); have HV := Aside0.mk hv; clear hv hge hb hx0 hx1 HX HB) | (go_at_call 73; (with_reducible refine (formulaOf_calls a1 _).mono ?_); rintro e w3 ⟨hb, hm⟩; rw [HF1.out] at hm; obtain rfl := hm; have HB3 := Aside0.mk (below_step HB2.out hb); have HV3 := Aside0.mk (View.below HV.out hb); clear hb) | (go_at_call 73; (with_reducible refine (formulaOf_calls a2 _).mono ?_); rintro e w4 ⟨hb, hm⟩; rw [HF2.out] at hm; obtain rfl := hm; have HB4 := Aside0.mk (below_step HB3.out hb); have HV4 := Aside0.mk (View.below HV3.out hb); clear hb))
        go_ret
        exact ⟨rfl, by repeat (first | exact HB4.out | apply pw_below_drewN | apply below_drew1 | apply below_alloc | apply below_set)⟩
      | some f2 =>
        have HLB := Aside0.mk hL
        have HF1 := Aside0.mk h1
        have HF2 := Aside0.mk h2
        rw [h1, h2] at h
        have hr_ : false = r := by rw [← h]; simp [sameO, hL]
        subst hr_
        clear h hL h1 h2
        go_enter Try.func32, Try.ntmps32
        go_wp2_with (first | ((with_reducible refine gate_dst (N := 3) rfl ?_); refine box_event ?hg (N := 3) ?hd (cs := #[.slice A0_0 l0_0.length c0_0, .slice A0_1 l0_1.length c0_1]) (t := 28) ?hr ?_; (case hd => rfl); (case hg => rfl); (case hr => first | (go_simp; done) | (go_simp; rfl)); intro gb hg_ w1 hbox hb; have HB := Aside0.mk hb; have hx0 : w1.cell? ⟨gb, 0, none⟩ = some (.slice A0_0 l0_0.length c0_0) := (blk_cell hbox 0).trans rfl; have hx1 : w1.cell? ⟨gb, 1, none⟩ = some (.slice A0_1 l0_1.length c0_1) := (blk_cell hbox 1).trans rfl; have HX := Aside0.mk hbox; clear hbox hb hg_) | (go_at_call 57; (with_reducible refine (told_y k _ _ l0_0 _ _ l0_1 _ ?s1 ?s2 ?s3 ?s4 HF.out HLB.out).mono ?_); (case s1 => exact Kd.C_below HR0.out HB.out); (case s2 => exact HC0.out); (case s3 => exact Kd.C_below HR1.out HB.out); (case s4 => exact HC1.out); rintro e w2 ⟨g, v, rfl, hv, hge, hb⟩; have HB2 := Aside0.mk (below_step HB.out hb); have HV := Aside0.mk hv; clear hv hge hb hx0 hx1 HX HB) | (go_at_call 73; (with_reducible refine (formulaOf_calls a1 _).mono ?_); rintro e w3 ⟨hb, hm⟩; rw [HF1.out] at hm; obtain rfl := hm; have HB3 := Aside0.mk (below_step HB2.out hb); have HV3 := Aside0.mk (View.below HV.out hb); clear hb) | (go_at_call 73; (with_reducible refine (formulaOf_calls a2 _).mono ?_); rintro e w4 ⟨hb, hm⟩; rw [HF2.out] at hm; obtain ⟨ph, rfl, hf⟩ := hm; have HFph := Aside0.mk hf; have HB4 := Aside0.mk (below_step HB3.out hb); have HV4 := Aside0.mk (View.below HV3.out hb); clear hb hf))
        go_ret
        exact ⟨rfl, by repeat (first | exact HB4.out | apply pw_below_drewN | apply below_drew1 | apply below_alloc | apply below_set)⟩
    | some f1 =>
      cases h2 : fmOf a2 with
      | none =>
        have HLB := Aside0.mk hL
        have HF1 := Aside0.mk h1
        have HF2 := Aside0.mk h2
        rw [h1, h2] at h
        have hr_ : false = r := by rw [← h]; simp [sameO, hL]
        subst hr_
        clear h hL h1 h2
        go_enter Try.func32, Try.ntmps32
        go_wp2_with (first | ((with_reducible refine gate_dst (N := 3) rfl ?_); refine box_event ?hg (N := 3) ?hd (cs := #[.slice A0_0 l0_0.length c0_0, .slice A0_1 l0_1.length c0_1]) (t := 28) ?hr ?_; (case hd => rfl); (case hg => rfl); (case hr => first | (go_simp; done) | (go_simp; rfl)); intro gb hg_ w1 hbox hb; have HB := Aside0.mk hb; have hx0 : w1.cell? ⟨gb, 0, none⟩ = some (.slice A0_0 l0_0.length c0_0) := (blk_cell hbox 0).trans rfl; have hx1 : w1.cell? ⟨gb, 1, none⟩ = some (.slice A0_1 l0_1.length c0_1) := (blk_cell hbox 1).trans rfl; have HX := Aside0.mk hbox; clear hbox hb hg_) | (go_at_call 57; (with_reducible refine (told_y k _ _ l0_0 _ _ l0_1 _ ?s1 ?s2 ?s3 ?s4 HF.out HLB.out).mono ?_); (case s1 => exact Kd.C_below HR0.out HB.out); (case s2 => exact HC0.out); (case s3 => exact Kd.C_below HR1.out HB.out); (case s4 => exact HC1.out); rintro e w2 ⟨g, v, rfl, hv, hge, hb⟩; have HB2 := Aside0.mk (below_step HB.out hb); have HV := Aside0.mk hv; clear hv hge hb hx0 hx1 HX HB) | (go_at_call 73; (with_reducible refine (formulaOf_calls a1 _).mono ?_); rintro e w3 ⟨hb, hm⟩; rw [HF1.out] at hm; obtain ⟨pf, rfl, hf⟩ := hm; have HFpf := Aside0.mk hf; have HB3 := Aside0.mk (below_step HB2.out hb); have HV3 := Aside0.mk (View.below HV.out hb); clear hb hf) | (go_at_call 73; (with_reducible refine (formulaOf_calls a2 _).mono ?_); rintro e w4 ⟨hb, hm⟩; rw [HF2.out] at hm; obtain rfl := hm; have HB4 := Aside0.mk (below_step HB3.out hb); have HV4 := Aside0.mk (View.below HV3.out hb); have HFpf := Aside0.mk (FAt.below hb _ _ HFpf.out); clear hb))
        go_ret
        exact ⟨rfl, by repeat (first | exact HB4.out | apply pw_below_drewN | apply below_drew1 | apply below_alloc | apply below_set)⟩
      | some f2 =>
        have HLB := Aside0.mk hL
        have HLg := Aside0.mk (logicB_iff.1 hL)
        have HSM := Aside0.mk (logicB_iff.1 hL).small
        have OF := Aside0.mk (fmOf_ok h1)
        have OH := Aside0.mk (fmOf_ok h2)
        have HF1 := Aside0.mk h1
        have HF2 := Aside0.mk h2
        rw [h1, h2] at h
        have hr_ : sameB l0_0 l0_1 f1 f2 = r := by rw [← h]; simp [sameO, hL]
        subst hr_
        clear h hL h1 h2
        unfold sameB
        go_enter Try.func32, Try.ntmps32
        go_wp2_with (first | ((with_reducible refine gate_dst (N := 3) rfl ?_); refine box_event ?hg (N := 3) ?hd (cs := #[.slice A0_0 l0_0.length c0_0, .slice A0_1 l0_1.length c0_1]) (t := 28) ?hr ?_; (case hd => rfl); (case hg => rfl); (case hr => first | (go_simp; done) | (go_simp; rfl)); intro gb hg_ w1 hbox hb; have HB := Aside0.mk hb; have hx0 : w1.cell? ⟨gb, 0, none⟩ = some (.slice A0_0 l0_0.length c0_0) := (blk_cell hbox 0).trans rfl; have hx1 : w1.cell? ⟨gb, 1, none⟩ = some (.slice A0_1 l0_1.length c0_1) := (blk_cell hbox 1).trans rfl; have HX := Aside0.mk hbox; clear hbox hb hg_) | (go_at_call 57; (with_reducible refine (told_y k _ _ l0_0 _ _ l0_1 _ ?s1 ?s2 ?s3 ?s4 HF.out HLB.out).mono ?_); (case s1 => exact Kd.C_below HR0.out HB.out); (case s2 => exact HC0.out); (case s3 => exact Kd.C_below HR1.out HB.out); (case s4 => exact HC1.out); rintro e w2 ⟨g, v, rfl, hv, hge, hb⟩; have HB2 := Aside0.mk (below_step HB.out hb); have HV := Aside0.mk hv; clear hv hge hb hx0 hx1 HX HB) | (go_at_call 73; (with_reducible refine (formulaOf_calls a1 _).mono ?_); rintro e w3 ⟨hb, hm⟩; rw [HF1.out] at hm; obtain ⟨pf, rfl, hf⟩ := hm; have HFpf := Aside0.mk hf; have HB3 := Aside0.mk (below_step HB2.out hb); have HV3 := Aside0.mk (View.below HV.out hb); clear hb hf) | (go_at_call 73; (with_reducible refine (formulaOf_calls a2 _).mono ?_); rintro e w4 ⟨hb, hm⟩; rw [HF2.out] at hm; obtain ⟨ph, rfl, hf⟩ := hm; have HFph := Aside0.mk hf; have HB4 := Aside0.mk (below_step HB3.out hb); have HV4 := Aside0.mk (View.below HV3.out hb); have HFpf := Aside0.mk (FAt.below hb _ _ HFpf.out); clear hb hf) | (go_at_call 65; have HS4 := Aside0.mk (same_start w4 HV4.out HFpf.out HFph.out); (with_reducible refine (every_pure g l0_0 l0_1 v _ HSM.out ?sV 75 _ #[.pointer (some ⟨w4.heap.size, 0, none⟩), .pointer (some ⟨w4.heap.size + 1, 0, none⟩), .pointer (some ⟨w4.heap.size + 1 + 1, 0, none⟩)] Try.func75 (by kernel_rfl) rfl (fun a b => allN l0_0.length fun c => sameT l0_0 l0_1 f1 f2 a b c) ?sT).mono ?_); (case sV => exact HS4.out.view); (case sT => exact fun a b ha hb W hW => same_c1 g l0_0 l0_1 v W HLg.out _ _ _ pf ph f1 f2 OF.out OH.out a b ⟨by omega, by omega⟩ ⟨by omega, by omega⟩ (HS4.out.below hW)); rintro e w5 ⟨rfl, hb⟩; have HB5 := Aside0.mk (below_step (below_alloc (below_alloc (below_alloc HB4.out _) _) _) hb); clear hb))
        go_ret
        exact ⟨rfl, by repeat (first | exact HB5.out | apply pw_below_drewN | apply below_drew1 | apply below_alloc | apply below_set)⟩
end Go.Proofs.Ythideghgdmokkaa.Print
end
section
namespace Go.Proofs.Ythideghgdmokkaa.Print
open Go.RowKit Go.Proofs.YthideghgdmokkaaW.PrintWords Go.Proofs.YthideghgdmokkaaW.PrintLast Go.Proofs.YthideghgdmokkaaW.PrintMore
set_option linter.unusedVariables false
set_option linter.unusedSimpArgs false
open Oml
theorem enc_b {n s b : Nat} (hb : b < n) : (s * n + b) % n = b := by rw [Nat.add_comm, Nat.add_mul_mod_self_right, Nat.mod_eq_of_lt hb]
theorem enc_s {n s b : Nat} (hb : b < n) : (s * n + b) / n = s := by rw [Nat.add_comm, Nat.add_mul_div_right _ _ (by omega), Nat.div_eq_of_lt hb, Nat.zero_add]
theorem enc_lt {n s b m : Nat} (hs : s < m) (hb : b < n) : s * n + b < m * n := by
  have : (s + 1) * n ≤ m * n := Nat.mul_le_mul_right n hs
  rw [Nat.succ_mul] at this
  omega
end Go.Proofs.Ythideghgdmokkaa.Print
end
section
namespace Go.Proofs.Ythideghgdmokkaa.Print
open Go.RowKit Go.Proofs.YthideghgdmokkaaW.PrintWords Go.Proofs.YthideghgdmokkaaW.PrintLast Go.Proofs.YthideghgdmokkaaW.PrintMore
set_option linter.unusedVariables false
set_option linter.unusedSimpArgs false
open Oml
theorem tdiv_nat (i n : Nat) : Int.tdiv (i : Int) (n : Int) = ((i / n : Nat) : Int) := by first | exact (Int.ofNat_tdiv i n).symm | rfl
theorem tmod_nat (i n : Nat) : Int.tmod (i : Int) (n : Int) = ((i % n : Nat) : Int) := by first | exact (Int.ofNat_tmod i n).symm | rfl
theorem wrap_cast {x : Nat} (h : x < 1000000) : wrap64 (x : Int) = (x : Int) := wrap_small (by omega) (by omega)
theorem cube_small {n : Nat} (h : n ≤ 12) : n * n * n ≤ 1728 := by
  have h1 : n * n ≤ 144 := Nat.mul_le_mul h h
  exact Nat.mul_le_mul h1 h
theorem wrap_cube {n : Nat} (h : n ≤ 12) : wrap64 (wrap64 ((n : Int) * n) * n) = ((n * n * n : Nat) : Int) := by
  have h1 : n * n ≤ 144 := Nat.mul_le_mul h h
  have h2 := cube_small h
  rw [show (n : Int) * n = ((n * n : Nat) : Int) by simp, wrap_cast (by omega), show ((n * n : Nat) : Int) * n = ((n * n * n : Nat) : Int) by simp, wrap_cast (by omega)]
end Go.Proofs.Ythideghgdmokkaa.Print
end
section
namespace Go.Proofs.Ythideghgdmokkaa.Print
open Go.RowKit Go.Proofs.YthideghgdmokkaaW.PrintWords Go.Proofs.YthideghgdmokkaaW.PrintLast Go.Proofs.YthideghgdmokkaaW.PrintMore
set_option linter.unusedVariables false
set_option linter.unusedSimpArgs false
open Oml
def sameK (U : List (List Int)) (N : List Int) (f h : Fm) (k : Nat) : Bool := sameT U N f h ((k / U.length / U.length : Nat) : Int) ((k / U.length % U.length : Nat) : Int) ((k % U.length : Nat) : Int)
theorem sameB_eq {U : List (List Int)} {N : List Int} (f h : Fm) (hp : 1 ≤ U.length) : sameB U N f h = allN (U.length * U.length * U.length) (sameK U N f h) := by
  rw [Bool.eq_iff_iff]
  unfold sameB sameK
  simp only [allN_iff]
  constructor
  · intro H k hk
    have hi1 : k / U.length < U.length * U.length := Nat.div_lt_of_lt_mul (by rw [Nat.mul_comm]; exact hk)
    exact H _ (Nat.div_lt_of_lt_mul hi1) _ (Nat.mod_lt _ hp) _ (Nat.mod_lt _ hp)
  · intro H a ha b hb c hc
    have := H ((a * U.length + b) * U.length + c) (enc_lt (enc_lt ha hb) hc)
    rw [enc_b hc, enc_s hc, enc_b hb, enc_s hb] at this
    exact this
theorem bne_self' (x : Bool) : ¬ (x != x) = true := by cases x <;> simp
end Go.Proofs.Ythideghgdmokkaa.Print
end
