/- Part 3 of what is common to several claims of this seat: FnExactFormulaOk. -/
import Derived.Test.YtjoadckkdophnaaLForm2
import Derived.Below
import Derived.Deep.Draws
import Derived.Deep.AppendLies
import Derived.Maps.AppendAt
import Derived.OwnWalk
import Derived.Laws.BytesArg
import Derived.Laws.MakeOwn
import Derived.Laws.OwnMore
import Derived.Deep.OwnRows
import Derived.Tactics
import Derived.Lib.ConvBytes
import Derived.Laws.Slices
import Derived.WalkKit
import Derived.KernelRfl
import Derived.RowKit3
import Derived.Deep.LoopGhost
import Derived.Deep.QuietTactic
import Derived.BigQuiet
import Derived.WideLaws
import Derived.Deep.DeepCutAuto
import Derived.Deep.CutBlock
import Derived.Deep.RegionHeld3
import Derived.Laws.Rows
import Derived.Lib.AppendStr
import Derived.ArgAppend
import Derived.Laws.IdiomCopy
import Derived.RowKit
import Derived.OrdersHeld
import Derived.Laws.BitsLemmas
import Derived.Test.YtjoadckkdophnaaProg
section
namespace Go.Proofs.Ytjoadckkdophnaa.Print
open Go.RowKit Go.Proofs.YtjoadckkdophnaaW.PrintWords Go.Proofs.YtjoadckkdophnaaW.PrintLast Go.Proofs.YtjoadckkdophnaaW.PrintMore
attribute [local go_sem] max2_int min2_int max_two min_two max_three min_three max_four min_four   -- for this text's walks alone
set_option linter.unusedVariables false
set_option linter.unusedSimpArgs false
def errW : Option Int → Value
  | none => .nilIface
  | some c => .iface 0 (.int .i64 c)
theorem errW_none : errW none = .nilIface := rfl
theorem errW_some (c : Int) : errW (some c) = .iface 0 (.int .i64 c) := rfl
end Go.Proofs.Ytjoadckkdophnaa.Print
end
section
namespace Go.Proofs.Ytjoadckkdophnaa.Print
open Go.RowKit Go.Proofs.YtjoadckkdophnaaW.PrintWords Go.Proofs.YtjoadckkdophnaaW.PrintLast Go.Proofs.YtjoadckkdophnaaW.PrintMore
attribute [local go_sem] max2_int min2_int max_two min_two max_three min_three max_four min_four   -- for this text's walks alone
set_option linter.unusedVariables false
set_option linter.unusedSimpArgs false
mutual
def spec_l10End.j0 : Nat → ByteArray → Int → Int → Bool → Option (Int)
  | 0, _, _, _, _ => none
  | k + 1, x0, x1, x13, x14 => if x14 = true then (some (wrap64 (x1 + 1))) else (if x13 = 33 then ((spec_l10End.f k x0 (wrap64 (x1 + 1))).bind fun t101 => (some t101)) else (if x13 = 40 then ((spec_l10End.f k x0 (wrap64 (x1 + 1))).bind fun t102 => (if t102 < 0 then (spec_l10End.j1 k x0 t102 true) else (if t102 ≥ (x0.size : Int) then (spec_l10End.j1 k x0 t102 true) else (if 0 ≤ t102 then (if t102 < (x0.size : Int) then (if (bt x0 t102) = 38 then (spec_l10End.j1 k x0 t102 false) else (spec_l10End.j1 k x0 t102 ((bt x0 t102) != 124))) else (none)) else (none))))) else (some (-1))))
def spec_l10End.j1 : Nat → ByteArray → Int → Bool → Option (Int)
  | 0, _, _, _ => none
  | k + 1, x0, x5, x53 => if x53 = true then (some (-1)) else ((spec_l10End.f k x0 (wrap64 (x5 + 1))).bind fun t103 => (if t103 < 0 then (some (-1)) else (if t103 ≥ (x0.size : Int) then (some (-1)) else (if 0 ≤ t103 then (if t103 < (x0.size : Int) then (if (bt x0 t103) = 41 then (some (wrap64 (t103 + 1))) else (some (-1))) else (none)) else (none)))))
def spec_l10End.f : Nat → ByteArray → Int → Option (Int)
  | 0, _, _ => none
  | k + 1, a0, a1 => if a1 ≥ (a0.size : Int) then (some (-1)) else (if 0 ≤ a1 then (if a1 < (a0.size : Int) then (if (bt a0 a1) = 97 then (spec_l10End.j0 k a0 a1 (bt a0 a1) ((bt a0 a1) == 97)) else (if (bt a0 a1) = 98 then (spec_l10End.j0 k a0 a1 (bt a0 a1) ((bt a0 a1) == 98)) else (if (bt a0 a1) = 99 then (spec_l10End.j0 k a0 a1 (bt a0 a1) ((bt a0 a1) == 99)) else (if (bt a0 a1) = 48 then (spec_l10End.j0 k a0 a1 (bt a0 a1) ((bt a0 a1) == 48)) else (spec_l10End.j0 k a0 a1 (bt a0 a1) ((bt a0 a1) == 49)))))) else (none)) else (none))
end
set_option maxHeartbeats 8000000 in
set_option maxRecDepth 100000 in
theorem spec_l10End.calls (k : Nat) : ∀ (a0 : ByteArray) (a1 : Int) (r : Int) (w : World) (h : spec_l10End.f k a0 a1 = some r),
    Calls Try.prog 46 #[.string a0, .int .i64 a1] w fun e w' => e = .returned (.int .i64 r) ∧ Drawn0 w w' := by
  induction k using Nat.strongRecOn with
  | _ k ih =>
  intro a0 a1 r w h
  cases k with
  | zero => exact absurd h (by simp [spec_l10End.f])
  | succ k =>
  simp only [spec_l10End.f] at h
  have H : (if a1 ≥ (a0.size : Int) then (some (-1)) else (if 0 ≤ a1 then (if a1 < (a0.size : Int) then (if (bt a0 a1) = 97 then (spec_l10End.j0 k a0 a1 (bt a0 a1) ((bt a0 a1) == 97)) else (if (bt a0 a1) = 98 then (spec_l10End.j0 k a0 a1 (bt a0 a1) ((bt a0 a1) == 98)) else (if (bt a0 a1) = 99 then (spec_l10End.j0 k a0 a1 (bt a0 a1) ((bt a0 a1) == 99)) else (if (bt a0 a1) = 48 then (spec_l10End.j0 k a0 a1 (bt a0 a1) ((bt a0 a1) == 48)) else (spec_l10End.j0 k a0 a1 (bt a0 a1) ((bt a0 a1) == 49)))))) else (none)) else (none))) = some r := h
  clear h
  by_cases c3 : a1 ≥ (a0.size : Int)
  · rw [if_pos c3] at H
    have c3b0 : decide ((a0.size : Int) ≤ a1) = true := decide_eq_true c3
    clear c3
    obtain rfl := Option.some.inj H
    go_enter Try.func46, Try.ntmps46
    go_wp2
    go_ret
    exact ⟨by first | rfl | (simp; done) | (simp [*]; done), by repeat (first | exact Drawn0.refl _ | apply Drawn0.step)⟩
  · rw [if_neg c3] at H
    have c3b0 : decide ((a0.size : Int) ≤ a1) = false := decide_eq_false c3
    clear c3
    by_cases c4 : 0 ≤ a1
    · rw [if_pos c4] at H
      have c4b0 : decide (0 ≤ a1) = true := decide_eq_true c4
      clear c4
      by_cases c5 : a1 < (a0.size : Int)
      · rw [if_pos c5] at H
        have c5b0 : decide (a1 < (a0.size : Int)) = true := decide_eq_true c5
        clear c5
        have HC7 := Aside0.mk H
        clear H
        have p6 : 0 ≤ (a1 : Int) := of_decide_eq_true (by first | (with_reducible assumption) | assumption)
        have q6 : a1 < (a0.size : Int) := of_decide_eq_true (by first | (with_reducible assumption) | assumption)
        have hx6 := bt_at a0 a1
        replace p6 := eq_true p6
        replace q6 := eq_true q6
        go_enter Try.func46, Try.ntmps46
        go_upto_if 14 with (fail)
        go_cut [14] (fun v14 wc => ∃ (kq : Nat) (x14_6 : Bool), v14 = .bool x14_6 ∧ Aside0 (spec_l10End.j0 kq a0 a1 (bt a0 a1) x14_6 = some r) ∧ Aside0 (kq ≤ k) ∧ Drawn0 w wc)
        case first =>
          have H := HC7.out
          clear HC7
          by_cases c8 : (bt a0 a1) = 97
          · rw [if_pos c8] at H
            have c8b0 : ((bt a0 a1) == 97) = true := beq_iff_eq.mpr c8
            have c8b1 : ((bt a0 a1) != 97) = false := bne_eq_false_iff_eq.mpr c8
            clear c8
            (first | rw [c8b0] | (simp only [i64_w, i32_w]; rw [c8b0]) | skip)
            have H' := Aside0.mk H
            clear H
            go_wp2
            go_meet
            case rel => exact ⟨_, (((bt a0 a1) == 97)), (by first | rfl | (simp; done) | (simp [*]; done)), H', ⟨by first | omega | exact Nat.le_refl _⟩, by repeat (first | exact Drawn0.refl _ | apply Drawn0.step)⟩
          · rw [if_neg c8] at H
            have c8b0 : ((bt a0 a1) == 97) = false := beq_eq_false_iff_ne.mpr c8
            have c8b1 : ((bt a0 a1) != 97) = true := bne_iff_ne.mpr c8
            (first | rw [c8b0] | (simp only [i64_w, i32_w]; rw [c8b0]) | skip)
            by_cases c9 : (bt a0 a1) = 98
            · rw [if_pos c9] at H
              have c9b0 : ((bt a0 a1) == 98) = true := beq_iff_eq.mpr c9
              have c9b1 : ((bt a0 a1) != 98) = false := bne_eq_false_iff_eq.mpr c9
              clear c9
              have H' := Aside0.mk H
              clear H
              go_wp2
              go_meet
              case rel => exact ⟨_, (((bt a0 a1) == 98)), (by first | rfl | (simp; done) | (simp [*]; done)), H', ⟨by first | omega | exact Nat.le_refl _⟩, by repeat (first | exact Drawn0.refl _ | apply Drawn0.step)⟩
            · rw [if_neg c9] at H
              have c9b0 : ((bt a0 a1) == 98) = false := beq_eq_false_iff_ne.mpr c9
              have c9b1 : ((bt a0 a1) != 98) = true := bne_iff_ne.mpr c9
              by_cases c10 : (bt a0 a1) = 99
              · rw [if_pos c10] at H
                have c10b0 : ((bt a0 a1) == 99) = true := beq_iff_eq.mpr c10
                have c10b1 : ((bt a0 a1) != 99) = false := bne_eq_false_iff_eq.mpr c10
                clear c10
                have H' := Aside0.mk H
                clear H
                go_wp2
                go_meet
                case rel => exact ⟨_, (((bt a0 a1) == 99)), (by first | rfl | (simp; done) | (simp [*]; done)), H', ⟨by first | omega | exact Nat.le_refl _⟩, by repeat (first | exact Drawn0.refl _ | apply Drawn0.step)⟩
              · rw [if_neg c10] at H
                have c10b0 : ((bt a0 a1) == 99) = false := beq_eq_false_iff_ne.mpr c10
                have c10b1 : ((bt a0 a1) != 99) = true := bne_iff_ne.mpr c10
                by_cases c11 : (bt a0 a1) = 48
                · rw [if_pos c11] at H
                  have c11b0 : ((bt a0 a1) == 48) = true := beq_iff_eq.mpr c11
                  have c11b1 : ((bt a0 a1) != 48) = false := bne_eq_false_iff_eq.mpr c11
                  clear c11
                  have H' := Aside0.mk H
                  clear H
                  go_wp2
                  go_meet
                  case rel => exact ⟨_, (((bt a0 a1) == 48)), (by first | rfl | (simp; done) | (simp [*]; done)), H', ⟨by first | omega | exact Nat.le_refl _⟩, by repeat (first | exact Drawn0.refl _ | apply Drawn0.step)⟩
                · rw [if_neg c11] at H
                  have c11b0 : ((bt a0 a1) == 48) = false := beq_eq_false_iff_ne.mpr c11
                  have c11b1 : ((bt a0 a1) != 48) = true := bne_iff_ne.mpr c11
                  have H' := Aside0.mk H
                  clear H
                  go_wp2
                  go_meet
                  case rel => exact ⟨_, (((bt a0 a1) == 49)), (by first | rfl | (simp; done) | (simp [*]; done)), H', ⟨by first | omega | exact Nat.le_refl _⟩, by repeat (first | exact Drawn0.refl _ | apply Drawn0.step)⟩
        case rest =>
          clear HC7
          try clear c1
          try clear p2
          try clear c3
          try clear c3b0
          try clear c4
          try clear c4b0
          try clear c5
          try clear c5b0
          try clear p6
          try clear q6
          try clear hx6
          try clear c8
          try clear c8b0
          try clear c8b1
          try clear c9
          try clear c9b0
          try clear c9b1
          try clear c10
          try clear c10b0
          try clear c10b1
          try clear c11
          try clear c11b0
          try clear c11b1
          try clear p6
          try clear q6
          obtain ⟨kq, x14_6, rfl, HA, HJ6, ⟨mc6, rfl⟩⟩ := hcut
          cases kq with
          | zero => exact absurd HA.out (by simp [spec_l10End.j0])
          | succ kj6 =>
            have H := HA.out
            clear HA
            simp only [spec_l10End.j0] at H
            by_cases c12 : x14_6 = true
            · subst c12
              have H1 : (some (wrap64 (a1 + 1))) = some r := by rw [if_pos rfl] at H; exact H
              clear H
              have H := H1
              clear H1
              obtain rfl := Option.some.inj H
              go_wp2
              go_ret
              exact ⟨by first | rfl | (simp; done) | (simp [*]; done), by repeat (first | exact Drawn0.refl _ | apply Drawn0.step)⟩
            · replace c12 := Bool.eq_false_iff.mpr c12
              subst c12
              have H1 : (if (bt a0 a1) = 33 then ((spec_l10End.f kj6 a0 (wrap64 (a1 + 1))).bind fun t101 => (some t101)) else (if (bt a0 a1) = 40 then ((spec_l10End.f kj6 a0 (wrap64 (a1 + 1))).bind fun t102 => (if t102 < 0 then (spec_l10End.j1 kj6 a0 t102 true) else (if t102 ≥ (a0.size : Int) then (spec_l10End.j1 kj6 a0 t102 true) else (if 0 ≤ t102 then (if t102 < (a0.size : Int) then (if (bt a0 t102) = 38 then (spec_l10End.j1 kj6 a0 t102 false) else (spec_l10End.j1 kj6 a0 t102 ((bt a0 t102) != 124))) else (none)) else (none))))) else (some (-1)))) = some r := by rw [if_neg (show ¬ (false = true) by decide)] at H; exact H
              clear H
              have H := H1
              clear H1
              by_cases c13 : (bt a0 a1) = 33
              · rw [if_pos c13] at H
                have c13b0 : ((bt a0 a1) == 33) = true := beq_iff_eq.mpr c13
                have c13b1 : ((bt a0 a1) != 33) = false := bne_eq_false_iff_eq.mpr c13
                clear c13
                replace H := Option.bind_eq_some_iff.mp H
                obtain ⟨t101, A140, H⟩ := H
                replace H : (some t101) = some r := H
                have A14 := Aside0.mk A140
                clear A140
                obtain rfl := Option.some.inj H
                go_wp2_with (first | ((with_reducible refine gate_callee (f := 46) rfl ?_); refine goesL_ (some 27) rfl rfl Try.func46 (by kernel_rfl) rfl #[.string a0, .int .i64 (wrap64 (a1 + 1))] rfl (by (try simp only [List.map_toArray, List.map_cons, List.map_nil]); first | done | rfl | (simp only [List.length_drop, List.length_take]; rfl)) ?_; (with_reducible refine (ih kj6 (by have := HJ6.out; omega) a0 (wrap64 (a1 + 1)) t101 _ A14.out).mono ?_); rintro e w' ⟨rfl, ⟨nd, rfl⟩⟩; refine ⟨_, rfl, ?_⟩))
                go_ret
                exact ⟨by first | rfl | (simp; done) | (simp [*]; done), by repeat (first | exact Drawn0.refl _ | apply Drawn0.step)⟩
              · rw [if_neg c13] at H
                have c13b0 : ((bt a0 a1) == 33) = false := beq_eq_false_iff_ne.mpr c13
                have c13b1 : ((bt a0 a1) != 33) = true := bne_iff_ne.mpr c13
                by_cases c15 : (bt a0 a1) = 40
                · rw [if_pos c15] at H
                  have c15b0 : ((bt a0 a1) == 40) = true := beq_iff_eq.mpr c15
                  have c15b1 : ((bt a0 a1) != 40) = false := bne_eq_false_iff_eq.mpr c15
                  clear c15
                  replace H := Option.bind_eq_some_iff.mp H
                  obtain ⟨t102, A160, H⟩ := H
                  replace H : (if t102 < 0 then (spec_l10End.j1 kj6 a0 t102 true) else (if t102 ≥ (a0.size : Int) then (spec_l10End.j1 kj6 a0 t102 true) else (if 0 ≤ t102 then (if t102 < (a0.size : Int) then (if (bt a0 t102) = 38 then (spec_l10End.j1 kj6 a0 t102 false) else (spec_l10End.j1 kj6 a0 t102 ((bt a0 t102) != 124))) else (none)) else (none)))) = some r := H
                  have A16 := Aside0.mk A160
                  clear A160
                  have HC17 := Aside0.mk H
                  clear H
                  go_upto_region 14 with (first | ((with_reducible refine gate_callee (f := 46) rfl ?_); refine goesL_ (some 33) rfl rfl Try.func46 (by kernel_rfl) rfl #[.string a0, .int .i64 (wrap64 (a1 + 1))] rfl (by (try simp only [List.map_toArray, List.map_cons, List.map_nil]); first | done | rfl | (simp only [List.length_drop, List.length_take]; rfl)) ?_; (with_reducible refine (ih kj6 (by have := HJ6.out; omega) a0 (wrap64 (a1 + 1)) t102 _ A16.out).mono ?_); rintro e w' ⟨rfl, ⟨nd, rfl⟩⟩; refine ⟨_, rfl, ?_⟩))
                  (try simp only [Act.put, List.setIfInBounds_toArray, List.set_cons_zero, List.set_cons_succ])
                  go_cut [53] (fun v53 wc => ∃ (kq : Nat) (x53_16 : Bool), v53 = .bool x53_16 ∧ Aside0 (spec_l10End.j1 kq a0 t102 x53_16 = some r) ∧ Aside0 (kq ≤ kj6) ∧ Drawn0 w wc)
                  case first =>
                    have H := HC17.out
                    clear HC17
                    by_cases c18 : t102 < 0
                    · rw [if_pos c18] at H
                      have c18b0 : decide (t102 < 0) = true := decide_eq_true c18
                      clear c18
                      (first | rw [c18b0] | (simp only [i64_w, i32_w]; rw [c18b0]) | skip)
                      have H' := Aside0.mk H
                      clear H
                      go_wp2
                      go_meet
                      case rel => exact ⟨_, (true), (by first | rfl | (simp; done) | (simp [*]; done)), H', ⟨by have := HJ6.out; first | omega | exact Nat.le_refl _⟩, by repeat (first | exact Drawn0.refl _ | apply Drawn0.step)⟩
                    · rw [if_neg c18] at H
                      have c18b0 : decide (t102 < 0) = false := decide_eq_false c18
                      clear c18
                      (first | rw [c18b0] | (simp only [i64_w, i32_w]; rw [c18b0]) | skip)
                      by_cases c19 : t102 ≥ (a0.size : Int)
                      · rw [if_pos c19] at H
                        have c19b0 : decide ((a0.size : Int) ≤ t102) = true := decide_eq_true c19
                        clear c19
                        have H' := Aside0.mk H
                        clear H
                        go_wp2
                        go_meet
                        case rel => exact ⟨_, (true), (by first | rfl | (simp; done) | (simp [*]; done)), H', ⟨by have := HJ6.out; first | omega | exact Nat.le_refl _⟩, by repeat (first | exact Drawn0.refl _ | apply Drawn0.step)⟩
                      · rw [if_neg c19] at H
                        have c19b0 : decide ((a0.size : Int) ≤ t102) = false := decide_eq_false c19
                        clear c19
                        by_cases c20 : 0 ≤ t102
                        · rw [if_pos c20] at H
                          have c20b0 : decide (0 ≤ t102) = true := decide_eq_true c20
                          clear c20
                          by_cases c21 : t102 < (a0.size : Int)
                          · rw [if_pos c21] at H
                            have c21b0 : decide (t102 < (a0.size : Int)) = true := decide_eq_true c21
                            clear c21
                            by_cases c23 : (bt a0 t102) = 38
                            · rw [if_pos c23] at H
                              have c23b0 : ((bt a0 t102) == 38) = true := beq_iff_eq.mpr c23
                              have c23b1 : ((bt a0 t102) != 38) = false := bne_eq_false_iff_eq.mpr c23
                              clear c23
                              have H' := Aside0.mk H
                              clear H
                              have p22 : 0 ≤ (t102 : Int) := of_decide_eq_true (by first | (with_reducible assumption) | assumption)
                              have q22 : t102 < (a0.size : Int) := of_decide_eq_true (by first | (with_reducible assumption) | assumption)
                              have hx22 := bt_at a0 t102
                              replace p22 := eq_true p22
                              replace q22 := eq_true q22
                              go_wp2
                              go_meet
                              case rel => exact ⟨_, (false), (by first | rfl | (simp; done) | (simp [*]; done)), H', ⟨by have := HJ6.out; first | omega | exact Nat.le_refl _⟩, by repeat (first | exact Drawn0.refl _ | apply Drawn0.step)⟩
                            · rw [if_neg c23] at H
                              have c23b0 : ((bt a0 t102) == 38) = false := beq_eq_false_iff_ne.mpr c23
                              have c23b1 : ((bt a0 t102) != 38) = true := bne_iff_ne.mpr c23
                              have H' := Aside0.mk H
                              clear H
                              have p22 : 0 ≤ (t102 : Int) := of_decide_eq_true (by first | (with_reducible assumption) | assumption)
                              have q22 : t102 < (a0.size : Int) := of_decide_eq_true (by first | (with_reducible assumption) | assumption)
                              have hx22 := bt_at a0 t102
                              replace p22 := eq_true p22
                              replace q22 := eq_true q22
                              have p24 : 0 ≤ (t102 : Int) := of_decide_eq_true (by first | (with_reducible assumption) | assumption)
                              have q24 : t102 < (a0.size : Int) := of_decide_eq_true (by first | (with_reducible assumption) | assumption)
                              have hx24 := bt_at a0 t102
                              replace p24 := eq_true p24
                              replace q24 := eq_true q24
                              go_wp2
                              go_meet
                              case rel => exact ⟨_, (((bt a0 t102) != 124)), (by first | rfl | (simp; done) | (simp [*]; done)), H', ⟨by have := HJ6.out; first | omega | exact Nat.le_refl _⟩, by repeat (first | exact Drawn0.refl _ | apply Drawn0.step)⟩
                          · rw [if_neg c21] at H
                            exact absurd H (by simp)
                        · rw [if_neg c20] at H
                          exact absurd H (by simp)
                  case rest =>
                    clear HC17
                    try clear c1
                    try clear c2
                    try clear p2
                    try clear q2
                    try clear hx2
                    try clear c3
                    try clear c3b0
                    try clear c4
                    try clear c4b0
                    try clear c5
                    try clear c5b0
                    try clear c6
                    try clear p6
                    try clear q6
                    try clear hx6
                    try clear c8
                    try clear c8b0
                    try clear c8b1
                    try clear c9
                    try clear c9b0
                    try clear c9b1
                    try clear c10
                    try clear c10b0
                    try clear c10b1
                    try clear c11
                    try clear c11b0
                    try clear c11b1
                    try clear c12
                    try clear c13
                    try clear c13b0
                    try clear c13b1
                    try clear c15
                    try clear c15b0
                    try clear c15b1
                    try clear c18
                    try clear c18b0
                    try clear c19
                    try clear c19b0
                    try clear c20
                    try clear c20b0
                    try clear c21
                    try clear c21b0
                    try clear p22
                    try clear q22
                    try clear hx22
                    try clear c23
                    try clear c23b0
                    try clear c23b1
                    try clear p24
                    try clear q24
                    try clear hx24
                    try clear p2
                    try clear p22
                    try clear p24
                    try clear p6
                    try clear q22
                    try clear q24
                    try clear q6
                    obtain ⟨kq, x53_16, rfl, HA, HJ16, ⟨mc16, rfl⟩⟩ := hcut
                    cases kq with
                    | zero => exact absurd HA.out (by simp [spec_l10End.j1])
                    | succ kj16 =>
                      have H := HA.out
                      clear HA
                      simp only [spec_l10End.j1] at H
                      by_cases c25 : x53_16 = true
                      · subst c25
                        have H1 : (some (-1)) = some r := by rw [if_pos rfl] at H; exact H
                        clear H
                        have H := H1
                        clear H1
                        obtain rfl := Option.some.inj H
                        go_wp2
                        go_ret
                        exact ⟨by first | rfl | (simp; done) | (simp [*]; done), by repeat (first | exact Drawn0.refl _ | apply Drawn0.step)⟩
                      · replace c25 := Bool.eq_false_iff.mpr c25
                        subst c25
                        have H1 : ((spec_l10End.f kj16 a0 (wrap64 (t102 + 1))).bind fun t103 => (if t103 < 0 then (some (-1)) else (if t103 ≥ (a0.size : Int) then (some (-1)) else (if 0 ≤ t103 then (if t103 < (a0.size : Int) then (if (bt a0 t103) = 41 then (some (wrap64 (t103 + 1))) else (some (-1))) else (none)) else (none))))) = some r := by rw [if_neg (show ¬ (false = true) by decide)] at H; exact H
                        clear H
                        have H := H1
                        clear H1
                        replace H := Option.bind_eq_some_iff.mp H
                        obtain ⟨t103, A260, H⟩ := H
                        replace H : (if t103 < 0 then (some (-1)) else (if t103 ≥ (a0.size : Int) then (some (-1)) else (if 0 ≤ t103 then (if t103 < (a0.size : Int) then (if (bt a0 t103) = 41 then (some (wrap64 (t103 + 1))) else (some (-1))) else (none)) else (none)))) = some r := H
                        have A26 := Aside0.mk A260
                        clear A260
                        by_cases c27 : t103 < 0
                        · rw [if_pos c27] at H
                          have c27b0 : decide (t103 < 0) = true := decide_eq_true c27
                          clear c27
                          obtain rfl := Option.some.inj H
                          go_wp2_with (first | ((with_reducible refine gate_callee (f := 46) rfl ?_); refine goesL_ (some 57) rfl rfl Try.func46 (by kernel_rfl) rfl #[.string a0, .int .i64 (wrap64 (t102 + 1))] rfl (by (try simp only [List.map_toArray, List.map_cons, List.map_nil]); first | done | rfl | (simp only [List.length_drop, List.length_take]; rfl)) ?_; (with_reducible refine (ih kj16 (by have := HJ6.out; have := HJ16.out; omega) a0 (wrap64 (t102 + 1)) t103 _ A26.out).mono ?_); rintro e w' ⟨rfl, ⟨nd, rfl⟩⟩; refine ⟨_, rfl, ?_⟩))
                          go_ret
                          exact ⟨by first | rfl | (simp; done) | (simp [*]; done), by repeat (first | exact Drawn0.refl _ | apply Drawn0.step)⟩
                        · rw [if_neg c27] at H
                          have c27b0 : decide (t103 < 0) = false := decide_eq_false c27
                          clear c27
                          by_cases c28 : t103 ≥ (a0.size : Int)
                          · rw [if_pos c28] at H
                            have c28b0 : decide ((a0.size : Int) ≤ t103) = true := decide_eq_true c28
                            clear c28
                            obtain rfl := Option.some.inj H
                            go_wp2_with (first | ((with_reducible refine gate_callee (f := 46) rfl ?_); refine goesL_ (some 57) rfl rfl Try.func46 (by kernel_rfl) rfl #[.string a0, .int .i64 (wrap64 (t102 + 1))] rfl (by (try simp only [List.map_toArray, List.map_cons, List.map_nil]); first | done | rfl | (simp only [List.length_drop, List.length_take]; rfl)) ?_; (with_reducible refine (ih kj16 (by have := HJ6.out; have := HJ16.out; omega) a0 (wrap64 (t102 + 1)) t103 _ A26.out).mono ?_); rintro e w' ⟨rfl, ⟨nd, rfl⟩⟩; refine ⟨_, rfl, ?_⟩))
                            go_ret
                            exact ⟨by first | rfl | (simp; done) | (simp [*]; done), by repeat (first | exact Drawn0.refl _ | apply Drawn0.step)⟩
                          · rw [if_neg c28] at H
                            have c28b0 : decide ((a0.size : Int) ≤ t103) = false := decide_eq_false c28
                            clear c28
                            by_cases c29 : 0 ≤ t103
                            · rw [if_pos c29] at H
                              have c29b0 : decide (0 ≤ t103) = true := decide_eq_true c29
                              clear c29
                              by_cases c30 : t103 < (a0.size : Int)
                              · rw [if_pos c30] at H
                                have c30b0 : decide (t103 < (a0.size : Int)) = true := decide_eq_true c30
                                clear c30
                                by_cases c32 : (bt a0 t103) = 41
                                · rw [if_pos c32] at H
                                  have c32b0 : ((bt a0 t103) == 41) = true := beq_iff_eq.mpr c32
                                  have c32b1 : ((bt a0 t103) != 41) = false := bne_eq_false_iff_eq.mpr c32
                                  clear c32
                                  obtain rfl := Option.some.inj H
                                  go_wp2_with (first | ((with_reducible refine gate_callee (f := 46) rfl ?_); refine goesL_ (some 57) rfl rfl Try.func46 (by kernel_rfl) rfl #[.string a0, .int .i64 (wrap64 (t102 + 1))] rfl (by (try simp only [List.map_toArray, List.map_cons, List.map_nil]); first | done | rfl | (simp only [List.length_drop, List.length_take]; rfl)) ?_; (with_reducible refine (ih kj16 (by have := HJ6.out; have := HJ16.out; omega) a0 (wrap64 (t102 + 1)) t103 _ A26.out).mono ?_); rintro e w' ⟨rfl, ⟨nd, rfl⟩⟩; refine ⟨_, rfl, ?_⟩; have p31 : 0 ≤ (t103 : Int) := of_decide_eq_true (by first | (with_reducible assumption) | assumption); have q31 : t103 < (a0.size : Int) := of_decide_eq_true (by first | (with_reducible assumption) | assumption); have hx31 := bt_at a0 t103; replace p31 := eq_true p31; replace q31 := eq_true q31))
                                  go_ret
                                  exact ⟨by first | rfl | (simp; done) | (simp [*]; done), by repeat (first | exact Drawn0.refl _ | apply Drawn0.step)⟩
                                · rw [if_neg c32] at H
                                  have c32b0 : ((bt a0 t103) == 41) = false := beq_eq_false_iff_ne.mpr c32
                                  have c32b1 : ((bt a0 t103) != 41) = true := bne_iff_ne.mpr c32
                                  obtain rfl := Option.some.inj H
                                  go_wp2_with (first | ((with_reducible refine gate_callee (f := 46) rfl ?_); refine goesL_ (some 57) rfl rfl Try.func46 (by kernel_rfl) rfl #[.string a0, .int .i64 (wrap64 (t102 + 1))] rfl (by (try simp only [List.map_toArray, List.map_cons, List.map_nil]); first | done | rfl | (simp only [List.length_drop, List.length_take]; rfl)) ?_; (with_reducible refine (ih kj16 (by have := HJ6.out; have := HJ16.out; omega) a0 (wrap64 (t102 + 1)) t103 _ A26.out).mono ?_); rintro e w' ⟨rfl, ⟨nd, rfl⟩⟩; refine ⟨_, rfl, ?_⟩; have p31 : 0 ≤ (t103 : Int) := of_decide_eq_true (by first | (with_reducible assumption) | assumption); have q31 : t103 < (a0.size : Int) := of_decide_eq_true (by first | (with_reducible assumption) | assumption); have hx31 := bt_at a0 t103; replace p31 := eq_true p31; replace q31 := eq_true q31))
                                  go_ret
                                  exact ⟨by first | rfl | (simp; done) | (simp [*]; done), by repeat (first | exact Drawn0.refl _ | apply Drawn0.step)⟩
                              · rw [if_neg c30] at H
                                exact absurd H (by simp)
                            · rw [if_neg c29] at H
                              exact absurd H (by simp)
                · rw [if_neg c15] at H
                  have c15b0 : ((bt a0 a1) == 40) = false := beq_eq_false_iff_ne.mpr c15
                  have c15b1 : ((bt a0 a1) != 40) = true := bne_iff_ne.mpr c15
                  obtain rfl := Option.some.inj H
                  go_wp2
                  go_ret
                  exact ⟨by first | rfl | (simp; done) | (simp [*]; done), by repeat (first | exact Drawn0.refl _ | apply Drawn0.step)⟩
      · rw [if_neg c5] at H
        exact absurd H (by simp)
    · rw [if_neg c4] at H
      exact absurd H (by simp)
end Go.Proofs.Ytjoadckkdophnaa.Print
end
section
namespace Go.Proofs.Ytjoadckkdophnaa.Print
open Go.RowKit Go.Proofs.YtjoadckkdophnaaW.PrintWords Go.Proofs.YtjoadckkdophnaaW.PrintLast Go.Proofs.YtjoadckkdophnaaW.PrintMore
attribute [local go_sem] max2_int min2_int max_two min_two max_three min_three max_four min_four   -- for this text's walks alone
set_option linter.unusedVariables false
set_option linter.unusedSimpArgs false
def spec_FormulaOk.f (k : Nat) (a0 : ByteArray) : Option (Bool) := if (a0.size : Int) ≤ 60 then (if (a0.size : Int) > 0 then ((spec_l10End.f k a0 0).bind fun t104 => (some (t104 == (a0.size : Int)))) else (some false)) else (some false)
set_option maxHeartbeats 8000000 in
set_option maxRecDepth 100000 in
theorem spec_FormulaOk.calls (k : Nat) (a0 : ByteArray) (r : Bool) (w : World) (h : spec_FormulaOk.f k a0 = some r) :
    Calls Try.prog 15 #[.string a0] w fun e w' => e = .returned (.bool r) ∧ Drawn0 w w' := by
  have H : (if (a0.size : Int) ≤ 60 then (if (a0.size : Int) > 0 then ((spec_l10End.f k a0 0).bind fun t104 => (some (t104 == (a0.size : Int)))) else (some false)) else (some false)) = some r := h
  clear h
  by_cases c2 : (a0.size : Int) ≤ 60
  · rw [if_pos c2] at H
    have c2b0 : decide ((a0.size : Int) ≤ 60) = true := decide_eq_true c2
    have c2b1 : decide (a0.size ≤ 60) = true := decide_eq_true (by omega)
    clear c2
    by_cases c3 : (a0.size : Int) > 0
    · rw [if_pos c3] at H
      have c3b0 : decide (0 < (a0.size : Int)) = true := decide_eq_true c3
      have c3b1 : decide (0 < a0.size) = true := decide_eq_true (by omega)
      clear c3
      replace H := Option.bind_eq_some_iff.mp H
      obtain ⟨t104, A40, H⟩ := H
      replace H : (some (t104 == (a0.size : Int))) = some r := H
      have A4 := Aside0.mk A40
      clear A40
      obtain rfl := Option.some.inj H
      go_enter Try.func15, Try.ntmps15
      go_wp2_with (first | (go_at_call 46; (with_reducible refine (spec_l10End.calls k a0 0 t104 _ A4.out).mono ?_); rintro e w' ⟨rfl, ⟨nd, rfl⟩⟩))
      go_ret
      exact ⟨by first | rfl | (simp; done) | (simp [*]; done), by repeat (first | exact Drawn0.refl _ | apply Drawn0.step)⟩
    · rw [if_neg c3] at H
      have c3b0 : decide (0 < (a0.size : Int)) = false := decide_eq_false c3
      have c3b1 : decide (0 < a0.size) = false := decide_eq_false (by omega)
      clear c3
      obtain rfl := Option.some.inj H
      go_enter Try.func15, Try.ntmps15
      go_wp2
      go_ret
      exact ⟨by first | rfl | (simp; done) | (simp [*]; done), by repeat (first | exact Drawn0.refl _ | apply Drawn0.step)⟩
  · rw [if_neg c2] at H
    have c2b0 : decide ((a0.size : Int) ≤ 60) = false := decide_eq_false c2
    have c2b1 : decide (a0.size ≤ 60) = false := decide_eq_false (by omega)
    clear c2
    obtain rfl := Option.some.inj H
    go_enter Try.func15, Try.ntmps15
    go_wp2
    go_ret
    exact ⟨by first | rfl | (simp; done) | (simp [*]; done), by repeat (first | exact Drawn0.refl _ | apply Drawn0.step)⟩
end Go.Proofs.Ytjoadckkdophnaa.Print
end
section
namespace Oml
universe u
structure OL (α : Type u) where
  le : α → α → Prop
  meet : α → α → α
  join : α → α → α
  neg : α → α
  bot : α
  le_refl : ∀ a, le a a
  le_antisymm : ∀ a b, le a b → le b a → a = b
  le_trans : ∀ a b c, le a b → le b c → le a c
  meet_l : ∀ a b, le (meet a b) a
  meet_r : ∀ a b, le (meet a b) b
  le_meet : ∀ a b c, le c a → le c b → le c (meet a b)
  join_l : ∀ a b, le a (join a b)
  join_r : ∀ a b, le b (join a b)
  join_le : ∀ a b c, le a c → le b c → le (join a b) c
  neg_neg : ∀ a, neg (neg a) = a
  neg_anti : ∀ a b, le a b → le (neg b) (neg a)
  meet_neg : ∀ a, meet a (neg a) = bot
  bot_le : ∀ a, le bot a
namespace OL
variable {α : Type u} (L : OL α)
def top : α := L.neg L.bot
theorem le_top (a : α) : L.le a L.top := by
  have h := L.neg_anti _ _ (L.bot_le (L.neg a))
  rw [L.neg_neg] at h
  exact h
theorem neg_le_iff (a b : α) : L.le (L.neg a) b ↔ L.le (L.neg b) a := by
  constructor <;> intro h
  · have := L.neg_anti _ _ h; rwa [L.neg_neg] at this
  · have := L.neg_anti _ _ h; rwa [L.neg_neg] at this
theorem join_comm (a b : α) : L.join a b = L.join b a :=
  L.le_antisymm _ _ (L.join_le _ _ _ (L.join_r _ _) (L.join_l _ _)) (L.join_le _ _ _ (L.join_r _ _) (L.join_l _ _))
theorem meet_eq_l (a b : α) : L.meet a b = a ↔ L.le a b := by
  constructor
  · intro h; rw [← h]; exact L.meet_r _ _
  · intro h; exact L.le_antisymm _ _ (L.meet_l _ _) (L.le_meet _ _ _ (L.le_refl _) h)
theorem neg_meet (a b : α) : L.neg (L.meet a b) = L.join (L.neg a) (L.neg b) := by
  apply L.le_antisymm
  · rw [L.neg_le_iff]
    exact L.le_meet _ _ _ (by rw [L.neg_le_iff]; exact L.join_l _ _) (by rw [L.neg_le_iff]; exact L.join_r _ _)
  · exact L.join_le _ _ _ (L.neg_anti _ _ (L.meet_l _ _)) (L.neg_anti _ _ (L.meet_r _ _))
theorem join_neg (a : α) : L.join a (L.neg a) = L.top := by
  have := L.neg_meet a (L.neg a)
  rw [L.meet_neg, L.neg_neg, L.join_comm] at this
  exact this.symm
theorem neg_top : L.neg L.top = L.bot := L.neg_neg _
theorem meet_top (a : α) : L.meet a L.top = a := (L.meet_eq_l _ _).2 (L.le_top _)
def C (a b : α) : Prop := L.join (L.meet a b) (L.meet a (L.neg b)) = a
def Split (a b c : α) : Prop := L.meet a (L.join b c) = L.join (L.meet a b) (L.meet a c)
def Boolean : Prop := ∀ a b c, L.Split a b c
variable {L}
theorem Boolean.C (B : L.Boolean) (a b : α) : L.C a b := by
  have := B a b (L.neg b)
  unfold Split at this
  rw [L.join_neg, L.meet_top] at this
  exact this.symm
structure High (L : OL α) (h : α → Nat) : Prop where
  mono : ∀ a b, L.le a b → a ≠ b → h a < h b
  step : ∀ a, h a ≠ 0 → ∃ b, L.le b a ∧ b ≠ a ∧ h b + 1 = h a
theorem High.le {h : α → Nat} (H : L.High h) {a b : α} (k : L.le a b) : h a ≤ h b := by
  by_cases e : a = b
  · rw [e]; exact Nat.le_refl _
  · exact Nat.le_of_lt (H.mono _ _ k e)
theorem High.eq {h : α → Nat} (H : L.High h) {a b : α} (k : L.le a b) (e : h b ≤ h a) : a = b := by
  apply Classical.byContradiction
  intro ne
  have := H.mono _ _ k ne
  omega
structure State (L : OL α) (s : α → Bool) : Prop where
  top : s L.top = true
  neg : ∀ a, s (L.neg a) = !s a
  join : ∀ a b, L.le a (L.neg b) → s (L.join a b) = (s a || s b) ∧ (s a && s b) = false
theorem State.bot {s : α → Bool} (S : L.State s) : s L.bot = false := by
  have := S.neg L.top; rw [L.neg_top, S.top] at this; exact this
end OL
end Oml
end
section
namespace Oml
def at1 (N : List Int) (a : Nat) : Int := N.getD a 0
def at2 (U : List (List Int)) (a b : Nat) : Int := (U.getD a []).getD b 0
def leB (U : List (List Int)) (a b : Nat) : Bool := at2 U a b == 1
def allN (n : Nat) (p : Nat → Bool) : Bool := (List.range n).all p
def findN (n : Nat) (p : Nat → Bool) : Option Nat := (List.range n).find? p
theorem findN_some {n : Nat} {p : Nat → Bool} {i : Nat} (h : findN n p = some i) : i < n ∧ p i = true := by
  have h1 := List.find?_some h
  have h2 := List.mem_of_find?_eq_some h
  exact ⟨by simpa using h2, h1⟩
structure Order (U : List (List Int)) : Prop where
  pos : 1 ≤ U.length
  small : U.length ≤ 12
  row : ∀ a, a < U.length → (U.getD a []).length = U.length
  bit : ∀ a b, a < U.length → b < U.length → at2 U a b = 0 ∨ at2 U a b = 1
  refl : ∀ a, a < U.length → leB U a a = true
  anti : ∀ a b, a < U.length → b < U.length → leB U a b = true → leB U b a = true → a = b
  trans : ∀ a b c, a < U.length → b < U.length → c < U.length → leB U a b = true → leB U b c = true → leB U a c = true
def meetP (U : List (List Int)) (a b c : Nat) : Bool := leB U c a && (leB U c b && allN U.length fun d => !(leB U d a && leB U d b) || leB U d c)
def joinP (U : List (List Int)) (a b c : Nat) : Bool := leB U a c && (leB U b c && allN U.length fun d => !(leB U a d && leB U b d) || leB U c d)
def meetO (U : List (List Int)) (a b : Nat) : Option Nat := findN U.length (meetP U a b)
def joinO (U : List (List Int)) (a b : Nat) : Option Nat := findN U.length (joinP U a b)
def leastO (U : List (List Int)) : Option Nat := findN U.length fun a => allN U.length fun b => leB U a b
structure Logic (U : List (List Int)) (N : List Int) : Prop extends Order U where
  meets : ∀ a b, a < U.length → b < U.length → (meetO U a b).isSome = true
  joins : ∀ a b, a < U.length → b < U.length → (joinO U a b).isSome = true
  len : N.length = U.length
  ran : ∀ a, a < U.length → 0 ≤ at1 N a ∧ at1 N a < U.length
  inv : ∀ a, a < U.length → at1 N (at1 N a).toNat = a
  comp : ∀ a, a < U.length → meetO U a (at1 N a).toNat = leastO U
  turn : ∀ a b, a < U.length → b < U.length → leB U a b = true → leB U (at1 N b).toNat (at1 N a).toNat = true
section
variable {U : List (List Int)} {N : List Int} (L : Logic U N)
include L in
theorem Logic.least_some : ∃ m, leastO U = some m := by
  have h0 : 0 < U.length := L.pos
  have := L.comp 0 h0
  obtain ⟨m, hm⟩ := Option.isSome_iff_exists.1 (L.meets 0 (at1 N 0).toNat h0 (by have := L.ran 0 h0; omega))
  exact ⟨m, by rw [← this, hm]⟩
def Logic.no : Fin U.length := ⟨(leastO U).get (by obtain ⟨m, h⟩ := L.least_some; rw [h]; rfl), (findN_some (Option.some_get _).symm).1⟩
end
end Oml
end
section
namespace Go.Proofs.Ytjoadckkdophnaa.Print
open Go.RowKit Go.Proofs.YtjoadckkdophnaaW.PrintWords Go.Proofs.YtjoadckkdophnaaW.PrintLast Go.Proofs.YtjoadckkdophnaaW.PrintMore
set_option linter.unusedVariables false
set_option linter.unusedSimpArgs false
open Oml
def AlgAt (W : World) (g : Nat) (U A O : List (List Int)) (N : List Int) (no yes : Int) : Prop :=
  ∃ A0 c0 A1 c1 A2 c2 A3 c3, W.heap[g]? = some (.cells #[.slice A0 U.length c0, .slice A1 A.length c1, .slice A2 O.length c2, .slice A3 N.length c3, .int .i64 no, .int .i64 yes] 57 (0, 0)) ∧
    (U.length ≤ c0 ∧ A.length ≤ c1 ∧ O.length ≤ c2 ∧ N.length ≤ c3) ∧ Kd.C (Kd.slice 3 (Kd.int .i64)) W A0 U.length U ∧ Kd.C (Kd.slice 3 (Kd.int .i64)) W A1 A.length A ∧ Kd.C (Kd.slice 3 (Kd.int .i64)) W A2 O.length O ∧ Kd.C (Kd.int .i64) W A3 N.length N
theorem AlgAt.below {W W1 : World} {g : Nat} {U A O : List (List Int)} {N : List Int} {no yes : Int} (h : AlgAt W g U A O N no yes) (hb : Below W.heap.size W W1) : AlgAt W1 g U A O N no yes := by
  obtain ⟨A0, c0, A1, c1, A2, c2, A3, c3, h1, hc, k0, k1, k2, k3⟩ := h
  exact ⟨A0, c0, A1, c1, A2, c2, A3, c3, blk_below h1 hb, hc, Kd.C_below k0 hb, Kd.C_below k1 hb, Kd.C_below k2 hb, Kd.C_below k3 hb⟩
theorem cell_up {w W : World} {B : Nat} {a : Addr} {v : Value} (h : w.cell? a = some v) (hb : Below B w W) (hB : B = w.heap.size) : W.cell? a = some v := by
  subst hB
  exact (hb.cell (World.block_lt_of_cell? w a h)).trans h
end Go.Proofs.Ytjoadckkdophnaa.Print
end
section
namespace Go.Proofs.Ytjoadckkdophnaa.Print
open Go.RowKit Go.Proofs.YtjoadckkdophnaaW.PrintWords Go.Proofs.YtjoadckkdophnaaW.PrintLast Go.Proofs.YtjoadckkdophnaaW.PrintMore
set_option linter.unusedVariables false
set_option linter.unusedSimpArgs false
open Oml
theorem Ev.eq {α : Type} {g : Nat → Option α} {r r' : α} (h : Ev g r) (e : r = r') : Ev g r' := e ▸ h
def allFrom (n : Nat) (p : Nat → Bool) (i : Nat) : Bool := (List.range' i (n - i)).all p
theorem allFrom_lt {n : Nat} {p : Nat → Bool} {i : Nat} (h : i < n) : allFrom n p i = (p i && allFrom n p (i + 1)) := by
  unfold allFrom
  obtain ⟨d, rfl⟩ : ∃ d, n = i + (d + 1) := ⟨n - i - 1, by omega⟩
  rw [show i + (d + 1) - i = d + 1 by omega, show i + (d + 1) - (i + 1) = d by omega, List.range'_succ, List.all_cons]
theorem allFrom_ge {n : Nat} {p : Nat → Bool} {i : Nat} (h : n ≤ i) : allFrom n p i = true := by
  unfold allFrom; rw [show n - i = 0 by omega]; rfl
theorem allFrom_zero (n : Nat) (p : Nat → Bool) : allFrom n p 0 = allN n p := by
  unfold allFrom allN; rw [Nat.sub_zero, List.range_eq_range']
theorem wrap_nat {i : Nat} (h : i < 4611686018427387904) : wrap64 ((i : Int) + 1) = ((i + 1 : Nat) : Int) := by unfold wrap64; omega
theorem Ev.succ {α : Type} {g : Nat → Option α} {r : α} (h : Ev (fun k => g (k + 1)) r) : Ev g r := Ev.step (fun _ => rfl) h
theorem Ev.ite_pos {α : Type} {c : Prop} [Decidable c] {a b : Nat → Option α} {r : α} (h : c) (k : Ev a r) : Ev (fun n => if c then a n else b n) r := by simpa only [if_pos h] using k
theorem Ev.ite_neg {α : Type} {c : Prop} [Decidable c] {a b : Nat → Option α} {r : α} (h : ¬ c) (k : Ev b r) : Ev (fun n => if c then a n else b n) r := by simpa only [if_neg h] using k
theorem Ev.pure {α : Type} {o : Option α} {r : α} (h : o = some r) : Ev (fun _ => o) r := h ▸ Ev.now r
theorem Ev.pbind {α β : Type} {g : Option α} {f : Nat → α → Option β} {a : α} {r : β} (h : g = some a) (k : Ev (fun n => f n a) r) : Ev (fun n => g.bind (f n)) r := Ev.bind (g := fun _ => g) (Ev.pure h) k
theorem Ev.all {ρ : Type} {g : Nat → Int → Option ρ} {n : Nat} (p : Nat → Bool) {go stop : ρ} (hn : n < 4611686018427387904) (hend : (∀ i, i < n → p i = true) → Ev (fun k => g k (n : Int)) go)
    (hstep : ∀ i, i < n → (∀ j, j < i → p j = true) → ∀ R, (p i = true → Ev (fun k => g k (wrap64 ((i : Int) + 1))) R) → Ev (fun k => g k (i : Int)) (if p i = true then R else stop)) :
    Ev (fun k => g k 0) (if allN n p = true then go else stop) := by
  have key : ∀ d i, i + d = n → (∀ j, j < i → p j = true) → Ev (fun k => g k (i : Int)) (if allFrom n p i = true then go else stop) := by
    intro d
    induction d with
    | zero =>
      intro i hi hj
      obtain rfl : i = n := by omega
      rw [allFrom_ge (Nat.le_refl _), if_pos rfl]
      exact hend hj
    | succ d ih =>
      intro i hi hj
      rw [allFrom_lt (by omega)]
      refine Ev.eq (hstep i (by omega) hj (if allFrom n p (i + 1) = true then go else stop) fun hp => ?_) ?_
      · rw [wrap_nat (by omega)]
        exact ih (i + 1) (by omega) fun j hj' => by
          rcases Nat.lt_or_ge j i with h | h
          · exact hj j h
          · obtain rfl : j = i := by omega
            exact hp
      · cases p i <;> simp
  have := key n 0 (by omega) fun _ h => absurd h (Nat.not_lt_zero _)
  rw [allFrom_zero] at this
  exact this
theorem Ev.loop {σ ρ : Type} {g : Nat → σ → Int → Option ρ} (n : Nat) (I : Nat → σ → Prop) {R : ρ} (hn : n < 4611686018427387904) (hend : ∀ s, I n s → Ev (fun k => g k s (n : Int)) R)
    (hstep : ∀ i s, i < n → I i s → ∃ s', I (i + 1) s' ∧ (Ev (fun k => g k s' (wrap64 ((i : Int) + 1))) R → Ev (fun k => g k s (i : Int)) R)) : ∀ s, I 0 s → Ev (fun k => g k s 0) R := by
  have key : ∀ d i, i + d = n → ∀ s, I i s → Ev (fun k => g k s (i : Int)) R := by
    intro d
    induction d with
    | zero => intro i hi s hs
              obtain rfl : i = n := by omega
              exact hend s hs
    | succ d ih =>
      intro i hi s hs
      obtain ⟨s', h1, h2⟩ := hstep i s (by omega) hs
      refine h2 ?_
      rw [wrap_nat (by omega)]
      exact ih (i + 1) (by omega) s' h1
  exact fun s hs => key n 0 (by omega) s hs
end Go.Proofs.Ytjoadckkdophnaa.Print
end
section
namespace Go.Proofs.Ytjoadckkdophnaa.Print
open Go.RowKit Go.Proofs.YtjoadckkdophnaaW.PrintWords Go.Proofs.YtjoadckkdophnaaW.PrintLast Go.Proofs.YtjoadckkdophnaaW.PrintMore
set_option linter.unusedVariables false
set_option linter.unusedSimpArgs false
open Oml
inductive Fm where
  | leaf (c : Int)
  | neg (f : Fm)
  | bin (o : Int) (f g : Fm)
def isLeaf (c : Int) : Prop := c = 97 ∨ c = 98 ∨ c = 99 ∨ c = 48 ∨ c = 49
instance (c : Int) : Decidable (isLeaf c) := by unfold isLeaf; infer_instance
def rdF : Nat → ByteArray → Option (Fm × ByteArray)
  | 0, _ => none
  | k + 1, s =>
    if s.size = 0 then none
    else if isLeaf (bt s 0) then some (.leaf (bt s 0), s.extract 1 s.size)
    else if bt s 0 = 33 then
      match rdF k (s.extract 1 s.size) with
      | none => none
      | some (f, r) => some (.neg f, r)
    else if bt s 0 = 40 then
      match rdF k (s.extract 1 s.size) with
      | none => none
      | some (f, r) =>
        if r.size = 0 then none
        else if bt r 0 = 38 ∨ bt r 0 = 124 then
          match rdF k (r.extract 1 r.size) with
          | none => none
          | some (g, q) =>
            if q.size = 0 then none
            else if bt q 0 = 41 then some (.bin (bt r 0) f g, q.extract 1 q.size)
            else none
        else none
    else none
theorem ext_size (s : ByteArray) : (s.extract 1 s.size).size = s.size - 1 := by rw [ByteArray.size_extract]; omega
theorem rdF_size : ∀ (k : Nat) (s : ByteArray) (f : Fm) (r : ByteArray), rdF k s = some (f, r) → r.size < s.size
  | 0, _, _, _, h => by simp [rdF] at h
  | k + 1, s, f, r, h => by
    have ih := rdF_size k
    simp only [rdF] at h
    split at h
    · cases h
    · rename_i h0
      split at h
      · cases h; rw [ext_size]; omega
      · split at h
        · split at h
          · cases h
          · rename_i f1 r1 h1
            cases h
            have := ih _ _ _ h1
            rw [ext_size] at this; omega
        · split at h
          · split at h
            · cases h
            · rename_i f1 r1 h1
              have h2 := ih _ _ _ h1
              rw [ext_size] at h2
              split at h
              · cases h
              · split at h
                · split at h
                  · cases h
                  · rename_i g q h3
                    have h4 := ih _ _ _ h3
                    rw [ext_size] at h4
                    split at h
                    · cases h
                    · split at h
                      · cases h; rw [ext_size]; omega
                      · cases h
                · cases h
          · cases h
def fmOf (s : ByteArray) : Option Fm :=
  if 60 < s.size then none
  else match rdF s.size s with
    | none => none
    | some (f, r) => if r.size = 0 then some f else none
def FAt (W : World) : Nat → Fm → Prop
  | p, .leaf c => W.heap[p]? = some (.cells #[.int .u8 c, .slice none 0 0] 76 (0, 0))
  | p, .neg f => ∃ q a c, W.heap[p]? = some (.cells #[.int .u8 33, .slice (some ⟨a, 0, none⟩) 1 c] 76 (0, 0)) ∧ W.cell? ⟨a, 0, none⟩ = some (.pointer (some ⟨q, 0, none⟩)) ∧ FAt W q f
  | p, .bin o f g => ∃ q r a c, W.heap[p]? = some (.cells #[.int .u8 o, .slice (some ⟨a, 0, none⟩) 2 c] 76 (0, 0)) ∧ W.cell? ⟨a, 0, none⟩ = some (.pointer (some ⟨q, 0, none⟩)) ∧ W.cell? ⟨a, 1, none⟩ = some (.pointer (some ⟨r, 0, none⟩)) ∧ FAt W q f ∧ FAt W r g
theorem FAt.below {W W1 : World} (hb : Below W.heap.size W W1) : ∀ (f : Fm) (p : Nat), FAt W p f → FAt W1 p f
  | .leaf c, p, h => blk_below h hb
  | .neg f, p, ⟨q, a, c, h1, h2, h3⟩ => ⟨q, a, c, blk_below h1 hb, cell_up h2 hb rfl, FAt.below hb f q h3⟩
  | .bin o f g, p, ⟨q, r, a, c, h1, h2, h3, h4, h5⟩ => ⟨q, r, a, c, blk_below h1 hb, cell_up h2 hb rfl, cell_up h3 hb rfl, FAt.below hb f q h4, FAt.below hb g r h5⟩
end Go.Proofs.Ytjoadckkdophnaa.Print
end
section
namespace Go.Proofs.Ytjoadckkdophnaa.Print
open Go.RowKit Go.Proofs.YtjoadckkdophnaaW.PrintWords Go.Proofs.YtjoadckkdophnaaW.PrintLast Go.Proofs.YtjoadckkdophnaaW.PrintMore
set_option linter.unusedVariables false
set_option linter.unusedSimpArgs false
open Oml
def RdPost (w : World) (s : ByteArray) (o : Option (Fm × ByteArray)) (e : Ending) (w' : World) : Prop :=
  Below w.heap.size w w' ∧ match o with
    | none => e = .returned (.tuple #[.pointer none, .string s])
    | some (f, r) => ∃ p, e = .returned (.tuple #[.pointer (some ⟨p, 0, none⟩), .string r]) ∧ FAt w' p f
theorem size_al (W : World) (o : Obj) : (W.alloc o).heap.size = W.heap.size + 1 := by first | (simp; done) | (unfold World.alloc; simp; done) | rfl
theorem blk2 (W : World) (o q : Obj) : ((W.alloc o).alloc q).heap[W.heap.size + 1]? = some q ∧ ((W.alloc o).alloc q).heap[W.heap.size]? = some o := by
  have h := (MapKept.heap_alloc (W.alloc o) q).1
  rw [size_al] at h
  exact ⟨h, blk_alloc (MapKept.heap_alloc W o).1 q⟩
theorem str_nil {s : ByteArray} (h : s.size = 0) : s.toList = [] := by
  rw [ByteArray.toList_eq]
  have h2 : s.data.size = 0 := h
  exact List.eq_nil_of_length_eq_zero (by rw [Array.length_toList]; exact h2)
theorem str_ne {s : ByteArray} (h : 0 < s.size) : s.toList.isEmpty = false ∧ (s.toList == []) = false := by
  have h1 : s.toList ≠ [] := by
    rw [ByteArray.toList_eq]
    intro e
    have h2 : s.data.size = 0 := by rw [← Array.length_toList, e]; rfl
    have h3 : s.size = 0 := h2
    omega
  cases hl : s.toList with
  | nil => exact absurd hl h1
  | cons a l => exact ⟨rfl, rfl⟩
theorem read_empty (k : Nat) (s : ByteArray) (w : World) (h : s.size = 0) : Calls Try.prog 76 #[.string s] w (RdPost w s (rdF k s)) := by
  have hr : rdF k s = none := by cases k <;> simp [rdF, h]
  rw [hr]
  have h1 := str_nil h
  have h2 : (s.toList == []) = true := by rw [h1]; rfl
  have h3 : s.toList.isEmpty = true := by rw [h1]; rfl
  clear hr h
  go_enter Try.func76, Try.ntmps76
  go_wp2_with fail
  go_ret2
  exact ⟨Below.refl _ _, rfl⟩
def impl_readFormula.T9 : Bool × List (List Nat × List Nat) := (true, [([], []), ([0], [0]), ([1], [1]), ([2], [2]), ([], []), ([4], [4]), ([3, 0, 1, 2, 3], [3]), ([5, 6, 0, 1, 2, 3, 4, 5, 6], [5])])
def impl_readFormula.B9 : List Nat := [0, 1, 3, 7, 0, 16, 15, 127]
theorem impl_readFormula.tab9 : rtab .any (opsOf Try.f76 9) = impl_readFormula.T9 := by kernel_rfl
theorem impl_readFormula.bits9 : waitsOk impl_readFormula.T9.2 impl_readFormula.B9 = true := by kernel_rfl
def impl_readFormula.T22 : Bool × List (List Nat × List Nat) := (true, [([], []), ([0], [0]), ([], []), ([], []), ([2, 3], [2, 3]), ([1, 4], [1, 4]), ([5], [5]), ([], []), ([7], [7]), ([6, 0, 1, 2, 3, 4, 5, 6], [6]), ([8, 9, 0, 1, 2, 3, 4, 5, 6, 7, 8, 9], [8])])
def impl_readFormula.B22 : List Nat := [0, 1, 0, 0, 12, 31, 63, 0, 128, 127, 1023]
theorem impl_readFormula.tab22 : rtab .any (opsOf Try.f76 22) = impl_readFormula.T22 := by kernel_rfl
theorem impl_readFormula.bits22 : waitsOk impl_readFormula.T22.2 impl_readFormula.B22 = true := by kernel_rfl
theorem read_leaf (k : Nat) (s : ByteArray) (w : World) (hp : 0 < s.size) (c : Int) (hc : bt s 0 = c) (hl : isLeaf c) : Calls Try.prog 76 #[.string s] w (RdPost w s (rdF (k + 1) s)) := by
  have hr : rdF (k + 1) s = some (.leaf (bt s 0), s.extract 1 s.size) := by simp only [rdF]; rw [if_neg (by omega), if_pos (by rw [hc]; exact hl)]
  rw [hr]
  obtain ⟨n1, n2⟩ := str_ne hp
  have n3 : decide (0 < s.size) = true := decide_eq_true hp
  have n4 : decide (1 ≤ s.size) = true := decide_eq_true hp
  have n5 := eq_true hp
  have n7 : ∀ h : 0 < s.size, ((s[0]'h).toNat : Int) = bt s 0 := fun h => bt_at s 0 h
  have n6 : decide ((1 : Int) ≤ (s.size : Int)) = true := decide_eq_true (by omega); have n8 : ((1 : Int) ≤ (s.size : Int)) = True := eq_true (by omega)
  unfold isLeaf at hl
  clear hr
  rcases hl with hl | hl | hl | hl | hl
  all_goals
    subst hl
    have t97 : (bt s 0 == 97) = (bt s 0 == 97) := rfl
    have e97 : (bt s 0 == 97) = _ := congrArg (fun x : Int => x == 97) hc
    have e98 : (bt s 0 == 98) = _ := congrArg (fun x : Int => x == 98) hc
    have e99 : (bt s 0 == 99) = _ := congrArg (fun x : Int => x == 99) hc
    have e48 : (bt s 0 == 48) = _ := congrArg (fun x : Int => x == 48) hc
    have e49 : (bt s 0 == 49) = _ := congrArg (fun x : Int => x == 49) hc
    clear t97 hc
    go_enter Try.func76, Try.ntmps76
    go_wp2_with fail
    refine start_ (n := 8) (S := (fun _ => True)) (ds := []) #[false, false, false, false, false, false, false, false] (by kernel_rfl) rfl rfl True.intro (fun hHeld => ?_)
    refine with_tabW impl_readFormula.tab9 impl_readFormula.bits9 (fun HT_ HW_ => ?_)
    generalize hwd : w.drew = wd at hHeld ⊢
    have HB := Aside0.mk (show Below w.heap.size w wd from hwd ▸ below_drew1 (Below.refl _ _))
    clear hwd
    refine pure_ (i := 0) (N := some 21) (v := ?_) (a' := ?_) #[true, false, false, false, false, false, false, false] rfl rfl (any_of HT_.out (by kernel_rfl)) (fun _ _ _ h => h) (Or.inl ⟨by rfl, ?_⟩) ?_ ?_
    rotate_left
    · intro w'; go_simp; with_reducible rfl
    rotate_left
    · simp only [Act.put, List.setIfInBounds_toArray, List.set_cons_zero, List.set_cons_succ, i64_w, i32_w]; rfl
    refine pure_ (i := 1) (N := some 22) (v := ?_) (a' := ?_) #[true, true, false, false, false, false, false, false] rfl rfl (any_of HT_.out (by kernel_rfl)) (fun _ _ _ h => h) (Or.inl ⟨by rfl, ?_⟩) ?_ ?_
    rotate_left
    · intro w'; go_simp; with_reducible rfl
    rotate_left
    · simp only [Act.put, List.setIfInBounds_toArray, List.set_cons_zero, List.set_cons_succ, i64_w, i32_w]; rfl
    refine pure_ (i := 2) (N := some 23) (v := ?_) (a' := ?_) #[true, true, true, false, false, false, false, false] rfl rfl (any_of HT_.out (by kernel_rfl)) (fun _ _ _ h => h) (Or.inl ⟨by rfl, ?_⟩) ?_ ?_
    rotate_left
    · intro w'; go_simp; with_reducible rfl
    rotate_left
    · simp only [Act.put, List.setIfInBounds_toArray, List.set_cons_zero, List.set_cons_succ, i64_w, i32_w]; rfl
    refine pure_ (i := 4) (N := some 25) (v := ?_) (a' := ?_) #[true, true, true, false, true, false, false, false] rfl rfl (any_of HT_.out (by kernel_rfl)) (fun _ _ _ h => h) (Or.inl ⟨by rfl, ?_⟩) ?_ ?_
    rotate_left
    · intro w'; go_simp; with_reducible rfl
    rotate_left
    · simp only [Act.put, List.setIfInBounds_toArray, List.set_cons_zero, List.set_cons_succ, i64_w, i32_w]; rfl
    refine pure_ (i := 5) (N := some 26) (v := ?_) (a' := ?_) #[true, true, true, false, true, true, false, false] rfl rfl (any_of HT_.out (by kernel_rfl)) (fun _ _ _ h => h) (Or.inl ⟨by rfl, ?_⟩) ?_ ?_
    rotate_left
    · intro w'; go_simp; with_reducible rfl
    rotate_left
    · simp only [Act.put, List.setIfInBounds_toArray, List.set_cons_zero, List.set_cons_succ, i64_w, i32_w]; rfl
    refine one_ (i := 3) (N := some 24) #[true, true, true, true, true, true, false, false] rfl rfl (one_of HT_.out (by kernel_rfl)) (by decide) (fun K hK => ?_)
    refine box_step (cs := #[.int .u8 (bt s 0), .slice none 0 0]) (t := 76) (N := 24) (by rfl) (by rfl) ?hr1 ?_
    case hr1 => first | (go_simp; done) | (go_simp; rfl)
    intro p hp w1 hbox hb
    have HX := Aside0.mk hbox
    have HB1 := Aside0.mk (below_step HB.out hb)
    refine hK.out _ _ True.intro (fun hHeld1 => ?_)
    clear hK K hbox hb hp HB
    refine norm_ (a' := ?_) ?_ ?_
    rotate_left
    · show Act.put _ (some 24) _ = _
      simp only [Act.put, List.setIfInBounds_toArray, List.set_cons_zero, List.set_cons_succ, i64_w, i32_w]
      rfl
    refine pure_ (i := 6) (N := some 2) (v := ?_) (a' := ?_) #[true, true, true, true, true, true, true, false] rfl rfl (any_of HT_.out (by kernel_rfl)) (fun _ _ _ h => h) (Or.inl ⟨by rfl, ?_⟩) ?_ ?_
    rotate_left
    · intro w'; go_simp; with_reducible rfl
    rotate_left
    · simp only [Act.put, List.setIfInBounds_toArray, List.set_cons_zero, List.set_cons_succ, i64_w, i32_w]; rfl
    refine pure_ (i := 7) (N := some 3) (v := ?_) (a' := ?_) #[true, true, true, true, true, true, true, true] rfl rfl (any_of HT_.out (by kernel_rfl)) (fun _ _ _ h => h) (Or.inl ⟨by rfl, ?_⟩) ?_ ?_
    rotate_left
    · intro w'; go_simp; with_reducible rfl
    rotate_left
    · simp only [Act.put, List.setIfInBounds_toArray, List.set_cons_zero, List.set_cons_succ, i64_w, i32_w]; rfl
    refine done_ (done_of HT_.out (by kernel_rfl)) ?_
    go_wp2
    go_ret2
    exact ⟨by repeat (first | exact HB1.out | apply pw_below_drewN | apply below_drew1), p, rfl, HX.out⟩
theorem rd_neg {k : Nat} {s : ByteArray} (hp : 0 < s.size) (hc : bt s 0 = 33) : rdF (k + 1) s = match rdF k (s.extract 1 s.size) with | none => none | some (f, r) => some (.neg f, r) := by
  simp only [rdF]; rw [if_neg (by omega), if_neg (by rw [hc]; unfold isLeaf; omega), if_pos hc]
  all_goals (cases rdF k (s.extract 1 s.size) <;> rfl)
theorem rd_par {k : Nat} {s : ByteArray} (hp : 0 < s.size) (hc : bt s 0 = 40) : rdF (k + 1) s = match rdF k (s.extract 1 s.size) with
      | none => none
      | some (f, r) =>
        if r.size = 0 then none
        else if bt r 0 = 38 ∨ bt r 0 = 124 then
          match rdF k (r.extract 1 r.size) with
          | none => none
          | some (g, q) =>
            if q.size = 0 then none
            else if bt q 0 = 41 then some (.bin (bt r 0) f g, q.extract 1 q.size)
            else none
        else none := by
  simp only [rdF]; rw [if_neg (by omega), if_neg (by rw [hc]; unfold isLeaf; omega), if_neg (by rw [hc]; omega), if_pos hc]
  all_goals
    rcases rdF k (s.extract 1 s.size) with _ | ⟨f, r⟩
    · rfl
    simp only []
    split
    · rfl
    split
    · rcases rdF k (r.extract 1 r.size) with _ | ⟨g, q⟩ <;> rfl
    · rfl
set_option maxHeartbeats 4000000 in
set_option maxRecDepth 100000 in
theorem read_calls : ∀ (k : Nat) (s : ByteArray) (w : World), s.size ≤ k → Calls Try.prog 76 #[.string s] w (RdPost w s (rdF k s)) := by
  intro k
  induction k with
  | zero => intro s w h; exact read_empty 0 s w (by omega)
  | succ k ih =>
  intro s w hk
  rcases Nat.eq_zero_or_pos s.size with h0 | hp
  · exact read_empty _ s w h0
  by_cases hl : isLeaf (bt s 0)
  · exact read_leaf k s w hp _ rfl hl
  obtain ⟨n1, n2⟩ := str_ne hp
  have n3 : decide (0 < s.size) = true := decide_eq_true hp
  have n4 : decide (1 ≤ s.size) = true := decide_eq_true hp
  have n5 := eq_true hp
  have n7 : ∀ h : 0 < s.size, ((s[0]'h).toNat : Int) = bt s 0 := fun h => bt_at s 0 h
  have n6 : decide ((1 : Int) ≤ (s.size : Int)) = true := decide_eq_true (by omega); have n8 : ((1 : Int) ≤ (s.size : Int)) = True := eq_true (by omega)
  have HK := Aside0.mk (show (s.extract 1 s.size).size ≤ k by rw [ext_size]; omega)
  have IH := Aside0.mk ih
  by_cases hc : bt s 0 = 33
  · rw [rd_neg hp hc]
    cases hrd : rdF k (s.extract 1 s.size) with
    | none =>
      have HRD := Aside0.mk hrd
      have z97 : (bt s 0 == 97) = false := by rw [hc]; rfl
      have z98 : (bt s 0 == 98) = false := by rw [hc]; rfl
      have z99 : (bt s 0 == 99) = false := by rw [hc]; rfl
      have z48 : (bt s 0 == 48) = false := by rw [hc]; rfl
      have z49 : (bt s 0 == 49) = false := by rw [hc]; rfl
      have q33 : (bt s 0 == 33) = true := by rw [hc]; rfl
      clear ih hk hl hc hrd hp
      go_enter Try.func76, Try.ntmps76
      go_wp2_with (go_at_call 76; (with_reducible refine (IH.out (s.extract 1 s.size) _ HK.out).mono ?_); rintro e w2 ⟨hb, hm⟩; rw [HRD.out] at hm; obtain rfl := hm; have HB := Aside0.mk hb; clear hb)
      go_ret2
      exact ⟨HB.out, rfl⟩
    | some fr =>
      obtain ⟨f, r⟩ := fr
      have HRD := Aside0.mk hrd
      have z97 : (bt s 0 == 97) = false := by rw [hc]; rfl
      have z98 : (bt s 0 == 98) = false := by rw [hc]; rfl
      have z99 : (bt s 0 == 99) = false := by rw [hc]; rfl
      have z48 : (bt s 0 == 48) = false := by rw [hc]; rfl
      have z49 : (bt s 0 == 49) = false := by rw [hc]; rfl
      have q33 : (bt s 0 == 33) = true := by rw [hc]; rfl
      clear ih hk hl hc hrd hp
      go_enter Try.func76, Try.ntmps76
      go_wp2_with (go_at_call 76; (with_reducible refine (IH.out (s.extract 1 s.size) _ HK.out).mono ?_); rintro e w2 ⟨hb, hm⟩; rw [HRD.out] at hm; obtain ⟨p, rfl, hf⟩ := hm; have HB := Aside0.mk hb; have HF := Aside0.mk hf; clear hb hf)
      go_ret2
      have h2 := blk2 w2 (.cells #[.pointer (some ⟨p, 0, none⟩)] 46) (.cells #[.int .u8 33, .slice (some ⟨w2.heap.size, 0, none⟩) 1 1] 76)
      exact ⟨below_alloc (below_alloc HB.out _) _, w2.heap.size + 1, rfl, p, w2.heap.size, 1, h2.1, (blk_cell h2.2 0).trans rfl, FAt.below (below_alloc (below_alloc (Below.refl _ _) _) _) f p HF.out⟩
  by_cases hc2 : bt s 0 = 40
  · rw [rd_par hp hc2]
    cases hrd : rdF k (s.extract 1 s.size) with
    | none =>
      have HRD := Aside0.mk hrd
      have z97 : (bt s 0 == 97) = false := by rw [hc2]; rfl
      have z98 : (bt s 0 == 98) = false := by rw [hc2]; rfl
      have z99 : (bt s 0 == 99) = false := by rw [hc2]; rfl
      have z48 : (bt s 0 == 48) = false := by rw [hc2]; rfl
      have z49 : (bt s 0 == 49) = false := by rw [hc2]; rfl
      have z33 : (bt s 0 == 33) = false := by rw [hc2]; rfl
      have q40 : (bt s 0 == 40) = true := by rw [hc2]; rfl
      clear ih hk hl hc hc2 hrd hp
      go_enter Try.func76, Try.ntmps76
      go_wp2_with (go_at_call 76; (with_reducible refine (IH.out (s.extract 1 s.size) _ HK.out).mono ?_); rintro e w2 ⟨hb, hm⟩; rw [HRD.out] at hm; obtain rfl := hm; have HB := Aside0.mk hb; clear hb)
      go_ret2
      exact ⟨HB.out, rfl⟩
    | some fr =>
      obtain ⟨f, r⟩ := fr
      have HRD := Aside0.mk hrd
      have HRS := Aside0.mk (rdF_size _ _ _ _ hrd)
      have z97 : (bt s 0 == 97) = false := by rw [hc2]; rfl
      have z98 : (bt s 0 == 98) = false := by rw [hc2]; rfl
      have z99 : (bt s 0 == 99) = false := by rw [hc2]; rfl
      have z48 : (bt s 0 == 48) = false := by rw [hc2]; rfl
      have z49 : (bt s 0 == 49) = false := by rw [hc2]; rfl
      have z33 : (bt s 0 == 33) = false := by rw [hc2]; rfl
      have q40 : (bt s 0 == 40) = true := by rw [hc2]; rfl
      clear ih hk hl hc hc2 hrd
      simp only []
      by_cases hr0 : r.size = 0
      · rw [if_pos hr0]
        have m1 := str_nil hr0
        have m2 : (r.toList == []) = true := by rw [m1]; rfl
        have m3 : r.toList.isEmpty = true := by rw [m1]; rfl
        clear hr0 hp
        go_enter Try.func76, Try.ntmps76
        go_wp2_with (go_at_call 76; (with_reducible refine (IH.out (s.extract 1 s.size) _ HK.out).mono ?_); rintro e w2 ⟨hb, hm⟩; rw [HRD.out] at hm; obtain ⟨p, rfl, hf⟩ := hm; have HB := Aside0.mk hb; have HF := Aside0.mk hf; clear hb hf)
        go_ret2
        exact ⟨HB.out, rfl⟩
      rw [if_neg hr0]
      obtain ⟨m1, m2⟩ := str_ne (s := r) (by omega)
      have m3 : decide (0 < r.size) = true := decide_eq_true (by omega)
      have m4 : decide (1 ≤ r.size) = true := decide_eq_true (by omega)
      have m5 := eq_true (show 0 < r.size by omega)
      have m7 : ∀ h : 0 < r.size, ((r[0]'h).toNat : Int) = bt r 0 := fun h => bt_at r 0 h
      have m6 : decide ((1 : Int) ≤ (r.size : Int)) = true := decide_eq_true (by omega); have m8 : ((1 : Int) ≤ (r.size : Int)) = True := eq_true (by omega)
      have HK2 := Aside0.mk (show (r.extract 1 r.size).size ≤ k by rw [ext_size]; have := HRS.out; have := HK.out; rw [ext_size] at *; omega)
      clear hr0 hp
      by_cases ho : bt r 0 = 38 ∨ bt r 0 = 124
      · rw [if_pos ho]
        have HO := Aside0.mk ho
        have o1 : ((bt r 0 != 38) = false ∨ ((bt r 0 != 38) = true ∧ (bt r 0 != 124) = false)) := by
          rcases ho with e | e
          · left; rw [e]; rfl
          · right; rw [e]; exact ⟨rfl, rfl⟩
        clear ho
        have key : ∀ (o : Option (Fm × ByteArray)), rdF k (r.extract 1 r.size) = o → Calls Try.prog 76 #[.string s] w (RdPost w s (match o with
            | none => none
            | some (g, q) => if q.size = 0 then none else if bt q 0 = 41 then some (.bin (bt r 0) f g, q.extract 1 q.size) else none)) := by
          intro o ho
          have HO2 := Aside0.mk ho
          clear ho
          cases o with
          | none =>
            rcases o1 with o1 | ⟨o1, o2⟩
            all_goals
              go_enter Try.func76, Try.ntmps76
              go_wp2_with (first | (go_at_call 76; (with_reducible refine (IH.out (s.extract 1 s.size) _ HK.out).mono ?_); rintro e w2 ⟨hb, hm⟩; rw [HRD.out] at hm; obtain ⟨p, rfl, hf⟩ := hm; have HB := Aside0.mk hb; have HF := Aside0.mk hf; clear hb hf) | (go_at_call 76; (with_reducible refine (IH.out (r.extract 1 r.size) _ HK2.out).mono ?_); rintro e w3 ⟨hb, hm⟩; rw [HO2.out] at hm; obtain rfl := hm; have HB3 := Aside0.mk (below_step HB.out hb); clear hb))
              go_ret2
              exact ⟨HB3.out, rfl⟩
          | some gq =>
            obtain ⟨g, q2⟩ := gq
            simp only []
            by_cases hq0 : q2.size = 0
            · rw [if_pos hq0]
              have u1 := str_nil hq0
              have u2 : (q2.toList == []) = true := by rw [u1]; rfl
              have u3 : q2.toList.isEmpty = true := by rw [u1]; rfl
              clear hq0
              rcases o1 with o1 | ⟨o1, o2⟩
              all_goals
                go_enter Try.func76, Try.ntmps76
                go_wp2_with (first | (go_at_call 76; (with_reducible refine (IH.out (s.extract 1 s.size) _ HK.out).mono ?_); rintro e w2 ⟨hb, hm⟩; rw [HRD.out] at hm; obtain ⟨p, rfl, hf⟩ := hm; have HB := Aside0.mk hb; have HF := Aside0.mk hf; clear hb hf) | (go_at_call 76; (with_reducible refine (IH.out (r.extract 1 r.size) _ HK2.out).mono ?_); rintro e w3 ⟨hb, hm⟩; rw [HO2.out] at hm; obtain ⟨q, rfl, hf⟩ := hm; have HB3 := Aside0.mk (below_step HB.out hb); clear hb hf))
                go_ret2
                exact ⟨HB3.out, rfl⟩
            rw [if_neg hq0]
            obtain ⟨u1, u2⟩ := str_ne (s := q2) (by omega)
            have u3 : decide (0 < q2.size) = true := decide_eq_true (by omega)
            have u4 : decide (1 ≤ q2.size) = true := decide_eq_true (by omega)
            have u5 := eq_true (show 0 < q2.size by omega)
            have u7 : ∀ h : 0 < q2.size, ((q2[0]'h).toNat : Int) = bt q2 0 := fun h => bt_at q2 0 h
            have u6 : decide ((1 : Int) ≤ (q2.size : Int)) = true := decide_eq_true (by omega); have u8 : ((1 : Int) ≤ (q2.size : Int)) = True := eq_true (by omega)
            clear hq0
            by_cases hq : bt q2 0 = 41
            · rw [if_pos hq]
              have v1 : (bt q2 0 != 41) = false := by rw [hq]; rfl
              clear hq
              rcases o1 with o1 | ⟨o1, o2⟩
              all_goals
                go_enter Try.func76, Try.ntmps76
                go_wp2_with (first | (go_at_call 76; (with_reducible refine (IH.out (s.extract 1 s.size) _ HK.out).mono ?_); rintro e w2 ⟨hb, hm⟩; rw [HRD.out] at hm; obtain ⟨p, rfl, hf⟩ := hm; have HB := Aside0.mk hb; have HF := Aside0.mk hf; clear hb hf) | (go_at_call 76; (with_reducible refine (IH.out (r.extract 1 r.size) _ HK2.out).mono ?_); rintro e w3 ⟨hb, hm⟩; rw [HO2.out] at hm; obtain ⟨q, rfl, hf⟩ := hm; have HB3 := Aside0.mk (below_step HB.out hb); have HF3 := Aside0.mk (FAt.below hb f p HF.out); have HG3 := Aside0.mk hf; clear hb hf HB HF))
                refine start_ (n := 11) (S := (fun _ => True)) (ds := []) #[false, false, false, false, false, false, false, false, false, false, false] (by kernel_rfl) rfl rfl True.intro (fun hHeld => ?_)
                refine with_tabW impl_readFormula.tab22 impl_readFormula.bits22 (fun HT_ HW_ => ?_)
                generalize hwd : w3.drew = wd at hHeld ⊢
                have HB4 := Aside0.mk (show Below w.heap.size w wd from hwd ▸ below_drew1 HB3.out)
                have HFf := Aside0.mk (show FAt wd p f from hwd ▸ FAt.below (below_drew1 (Below.refl _ _)) f p HF3.out)
                have HFg := Aside0.mk (show FAt wd q g from hwd ▸ FAt.below (below_drew1 (Below.refl _ _)) g q HG3.out)
                clear hwd HB3 HF3 HG3
                refine pure_ (i := 0) (N := some 86) (v := ?_) (a' := ?_) #[true, false, false, false, false, false, false, false, false, false, false] rfl rfl (any_of HT_.out (by kernel_rfl)) (fun _ _ _ h => h) (Or.inl ⟨by rfl, ?_⟩) ?_ ?_
                rotate_left
                · intro w'; go_simp; with_reducible rfl
                rotate_left
                · simp only [Act.put, List.setIfInBounds_toArray, List.set_cons_zero, List.set_cons_succ, i64_w, i32_w]; rfl
                refine pure_ (i := 1) (N := some 87) (v := ?_) (a' := ?_) #[true, true, false, false, false, false, false, false, false, false, false] rfl rfl (any_of HT_.out (by kernel_rfl)) (fun _ _ _ h => h) (Or.inl ⟨by rfl, ?_⟩) ?_ ?_
                rotate_left
                · intro w'; go_simp; with_reducible rfl
                rotate_left
                · simp only [Act.put, List.setIfInBounds_toArray, List.set_cons_zero, List.set_cons_succ, i64_w, i32_w]; rfl
                refine pure_ (i := 2) (N := some 88) (v := ?_) (a' := ?_) #[true, true, true, false, false, false, false, false, false, false, false] rfl rfl (any_of HT_.out (by kernel_rfl)) (fun _ _ _ h => h) (Or.inl ⟨by rfl, ?_⟩) ?_ ?_
                rotate_left
                · intro w'; go_simp; with_reducible rfl
                rotate_left
                · simp only [Act.put, List.setIfInBounds_toArray, List.set_cons_zero, List.set_cons_succ, i64_w, i32_w]; rfl
                refine pure_ (i := 3) (N := some 89) (v := ?_) (a' := ?_) #[true, true, true, true, false, false, false, false, false, false, false] rfl rfl (any_of HT_.out (by kernel_rfl)) (fun _ _ _ h => h) (Or.inl ⟨by rfl, ?_⟩) ?_ ?_
                rotate_left
                · intro w'; go_simp; with_reducible rfl
                rotate_left
                · simp only [Act.put, List.setIfInBounds_toArray, List.set_cons_zero, List.set_cons_succ, i64_w, i32_w]; rfl
                refine pure_ (i := 7) (N := some 93) (v := ?_) (a' := ?_) #[true, true, true, true, false, false, false, true, false, false, false] rfl rfl (any_of HT_.out (by kernel_rfl)) (fun _ _ _ h => h) (Or.inl ⟨by rfl, ?_⟩) ?_ ?_
                rotate_left
                · intro w'; go_simp; with_reducible rfl
                rotate_left
                · simp only [Act.put, List.setIfInBounds_toArray, List.set_cons_zero, List.set_cons_succ, i64_w, i32_w]; rfl
                refine pure_ (i := 8) (N := some 94) (v := ?_) (a' := ?_) #[true, true, true, true, false, false, false, true, true, false, false] rfl rfl (any_of HT_.out (by kernel_rfl)) (fun _ _ _ h => h) (Or.inl ⟨by rfl, ?_⟩) ?_ ?_
                rotate_left
                · intro w'; go_simp; with_reducible rfl
                rotate_left
                · simp only [Act.put, List.setIfInBounds_toArray, List.set_cons_zero, List.set_cons_succ, i64_w, i32_w]; rfl
                refine one_ (i := 4) (N := some 90) #[true, true, true, true, true, false, false, true, true, false, false] rfl rfl (one_of HT_.out (by kernel_rfl)) (by decide) (fun K hK => ?_)
                refine event_step (w1 := World.alloc wd (.cells #[.pointer (some ⟨p, 0, none⟩), .pointer (some ⟨q, 0, none⟩)] 46)) (v := .slice (some ⟨wd.heap.size, 0, none⟩) 2 2) (by rfl) ?hr1 ?_
                case hr1 => first | (go_simp; done) | (go_simp; rfl)
                have HA := Aside0.mk (MapKept.heap_alloc wd (.cells #[.pointer (some ⟨p, 0, none⟩), .pointer (some ⟨q, 0, none⟩)] 46)).1
                have HB5 := Aside0.mk (below_alloc HB4.out (.cells #[.pointer (some ⟨p, 0, none⟩), .pointer (some ⟨q, 0, none⟩)] 46))
                have HFf5 := Aside0.mk (FAt.below (below_alloc (Below.refl _ _) (.cells #[.pointer (some ⟨p, 0, none⟩), .pointer (some ⟨q, 0, none⟩)] 46)) f p HFf.out)
                have HFg5 := Aside0.mk (FAt.below (below_alloc (Below.refl _ _) (.cells #[.pointer (some ⟨p, 0, none⟩), .pointer (some ⟨q, 0, none⟩)] 46)) g q HFg.out)
                obtain ⟨ag, hag⟩ : ∃ ag, ag = wd.heap.size := ⟨_, rfl⟩
                rw [← hag] at HA ⊢
                generalize World.alloc wd (.cells #[.pointer (some ⟨p, 0, none⟩), .pointer (some ⟨q, 0, none⟩)] 46) = w5 at HA HB5 HFf5 HFg5 ⊢
                clear hag HB4 HFf HFg
                refine hK.out _ _ True.intro (fun hHeld1 => ?_)
                clear hK K
                refine norm_ (a' := ?_) ?_ ?_
                rotate_left
                · show Act.put _ (some 90) _ = _
                  simp only [Act.put, List.setIfInBounds_toArray, List.set_cons_zero, List.set_cons_succ, i64_w, i32_w]
                  rfl
                refine pure_ (i := 5) (N := some 91) (v := ?_) (a' := ?_) #[true, true, true, true, true, true, false, true, true, false, false] rfl rfl (any_of HT_.out (by kernel_rfl)) (fun _ _ _ h => h) (Or.inl ⟨by rfl, ?_⟩) ?_ ?_
                rotate_left
                · intro w'; go_simp; with_reducible rfl
                rotate_left
                · simp only [Act.put, List.setIfInBounds_toArray, List.set_cons_zero, List.set_cons_succ, i64_w, i32_w]; rfl
                refine one_ (i := 6) (N := some 92) #[true, true, true, true, true, true, true, true, true, false, false] rfl rfl (one_of HT_.out (by kernel_rfl)) (by decide) (fun K hK => ?_)
                refine box_step (cs := #[.int .u8 (bt r 0), .slice (some ⟨ag, 0, none⟩) 2 2]) (t := 76) (N := 92) (by rfl) (by rfl) ?hr2 ?_
                case hr2 => first | (go_simp; done) | (go_simp; rfl)
                intro pp hp w6 hbox hb
                have HX := Aside0.mk hbox
                have HB6 := Aside0.mk (below_step HB5.out hb)
                have HA6 := Aside0.mk (blk_below HA.out hb)
                have HFf6 := Aside0.mk (FAt.below hb f p HFf5.out)
                have HFg6 := Aside0.mk (FAt.below hb g q HFg5.out)
                refine hK.out _ _ True.intro (fun hHeld2 => ?_)
                clear hK K hbox hb hp HB5 HA HFf5 HFg5
                refine norm_ (a' := ?_) ?_ ?_
                rotate_left
                · show Act.put _ (some 92) _ = _
                  simp only [Act.put, List.setIfInBounds_toArray, List.set_cons_zero, List.set_cons_succ, i64_w, i32_w]
                  rfl
                refine pure_ (i := 9) (N := some 2) (v := ?_) (a' := ?_) #[true, true, true, true, true, true, true, true, true, true, false] rfl rfl (any_of HT_.out (by kernel_rfl)) (fun _ _ _ h => h) (Or.inl ⟨by rfl, ?_⟩) ?_ ?_
                rotate_left
                · intro w'; go_simp; with_reducible rfl
                rotate_left
                · simp only [Act.put, List.setIfInBounds_toArray, List.set_cons_zero, List.set_cons_succ, i64_w, i32_w]; rfl
                refine pure_ (i := 10) (N := some 3) (v := ?_) (a' := ?_) #[true, true, true, true, true, true, true, true, true, true, true] rfl rfl (any_of HT_.out (by kernel_rfl)) (fun _ _ _ h => h) (Or.inl ⟨by rfl, ?_⟩) ?_ ?_
                rotate_left
                · intro w'; go_simp; with_reducible rfl
                rotate_left
                · simp only [Act.put, List.setIfInBounds_toArray, List.set_cons_zero, List.set_cons_succ, i64_w, i32_w]; rfl
                refine done_ (done_of HT_.out (by kernel_rfl)) ?_
                go_wp2
                go_ret2
                exact ⟨by repeat (first | exact HB6.out | apply pw_below_drewN | apply below_drew1), pp, rfl, p, q, ag, 2, HX.out, (blk_cell HA6.out 0).trans rfl, (blk_cell HA6.out 1).trans rfl, HFf6.out, HFg6.out⟩
            · rw [if_neg hq]
              have v1 : (bt q2 0 != 41) = true := bne_iff_ne.2 hq
              clear hq
              rcases o1 with o1 | ⟨o1, o2⟩
              all_goals
                go_enter Try.func76, Try.ntmps76
                go_wp2_with (first | (go_at_call 76; (with_reducible refine (IH.out (s.extract 1 s.size) _ HK.out).mono ?_); rintro e w2 ⟨hb, hm⟩; rw [HRD.out] at hm; obtain ⟨p, rfl, hf⟩ := hm; have HB := Aside0.mk hb; have HF := Aside0.mk hf; clear hb hf) | (go_at_call 76; (with_reducible refine (IH.out (r.extract 1 r.size) _ HK2.out).mono ?_); rintro e w3 ⟨hb, hm⟩; rw [HO2.out] at hm; obtain ⟨q, rfl, hf⟩ := hm; have HB3 := Aside0.mk (below_step HB.out hb); clear hb hf))
                go_ret2
                exact ⟨HB3.out, rfl⟩
        exact key _ rfl
      · rw [if_neg ho]
        have o1 : (bt r 0 != 38) = true := bne_iff_ne.2 (fun e => ho (.inl e))
        have o2 : (bt r 0 != 124) = true := bne_iff_ne.2 (fun e => ho (.inr e))
        clear ho
        go_enter Try.func76, Try.ntmps76
        go_wp2_with (go_at_call 76; (with_reducible refine (IH.out (s.extract 1 s.size) _ HK.out).mono ?_); rintro e w2 ⟨hb, hm⟩; rw [HRD.out] at hm; obtain ⟨p, rfl, hf⟩ := hm; have HB := Aside0.mk hb; have HF := Aside0.mk hf; clear hb hf)
        go_ret2
        exact ⟨HB.out, rfl⟩
  · have hr : rdF (k + 1) s = none := by simp only [rdF]; rw [if_neg (by omega), if_neg hl, if_neg hc, if_neg hc2]
    rw [hr]
    unfold isLeaf at hl
    have z97 : (bt s 0 == 97) = false := beq_eq_false_iff_ne.2 (fun e => by simp [e] at hl)
    have z98 : (bt s 0 == 98) = false := beq_eq_false_iff_ne.2 (fun e => by simp [e] at hl)
    have z99 : (bt s 0 == 99) = false := beq_eq_false_iff_ne.2 (fun e => by simp [e] at hl)
    have z48 : (bt s 0 == 48) = false := beq_eq_false_iff_ne.2 (fun e => by simp [e] at hl)
    have z49 : (bt s 0 == 49) = false := beq_eq_false_iff_ne.2 (fun e => by simp [e] at hl)
    have z33 : (bt s 0 == 33) = false := beq_eq_false_iff_ne.2 (fun e => by simp [e] at hc)
    have z40 : (bt s 0 == 40) = false := beq_eq_false_iff_ne.2 (fun e => by simp [e] at hc2)
    clear ih hk hl hc hc2 hr hp
    go_enter Try.func76, Try.ntmps76
    go_wp2_with fail
    go_ret2
    exact ⟨Below.refl _ _, rfl⟩
theorem formulaOf_calls (s : ByteArray) (w : World) : Calls Try.prog 47 #[.string s] w fun e w' => Below w.heap.size w w' ∧ match fmOf s with
    | none => e = .returned (.pointer none)
    | some f => ∃ p, e = .returned (.pointer (some ⟨p, 0, none⟩)) ∧ FAt w' p f := by
  unfold fmOf
  by_cases h : 60 < s.size
  · have d1 : decide ((60 : Int) < (s.size : Int)) = true := decide_eq_true (by omega)
    have d2 : decide (60 < s.size) = true := decide_eq_true h
    rw [if_pos h]
    clear h
    go_enter Try.func47, Try.ntmps47
    go_wp2_with fail
    go_ret
    exact ⟨Below.refl _ _, rfl⟩
  · have d1 : decide ((60 : Int) < (s.size : Int)) = false := decide_eq_false (by omega)
    have d2 : decide (60 < s.size) = false := decide_eq_false h
    rw [if_neg h]
    have HR := Aside0.mk (read_calls s.size s w (Nat.le_refl _))
    clear h
    generalize rdF s.size s = o at HR ⊢
    cases o with
    | none =>
      have key : ∀ x : ByteArray, x = s → Calls Try.prog 47 #[.string s] w fun e w' => Below w.heap.size w w' ∧ e = .returned (.pointer none) := by
        intro x hx
        by_cases h0 : s.size = 0
        · have m1 := str_nil h0
          have m2 : (s.toList != []) = false := by rw [m1]; rfl
          have m3 : s.toList.isEmpty = true := by rw [m1]; rfl
          clear h0
          go_enter Try.func47, Try.ntmps47
          go_wp2_with (go_at_call 76; (with_reducible refine HR.out.mono ?_); rintro e w2 ⟨hb, rfl⟩; have HB := Aside0.mk hb; clear hb)
          go_ret
          exact ⟨HB.out, rfl⟩
        · obtain ⟨m1, m2⟩ := str_ne (s := s) (by omega)
          have m3 : (s.toList != []) = true := by rw [bne, m2]; rfl
          clear h0
          go_enter Try.func47, Try.ntmps47
          go_wp2_with (go_at_call 76; (with_reducible refine HR.out.mono ?_); rintro e w2 ⟨hb, rfl⟩; have HB := Aside0.mk hb; clear hb)
          go_ret
          exact ⟨HB.out, rfl⟩
      exact key _ rfl
    | some fr =>
      obtain ⟨f, r⟩ := fr
      simp only []
      by_cases h0 : r.size = 0
      · rw [if_pos h0]
        have m1 := str_nil h0
        have m2 : (r.toList != []) = false := by rw [m1]; rfl
        have m3 : r.toList.isEmpty = true := by rw [m1]; rfl
        clear h0
        go_enter Try.func47, Try.ntmps47
        go_wp2_with (go_at_call 76; (with_reducible refine HR.out.mono ?_); rintro e w2 ⟨hb, p, rfl, hf⟩; have HB := Aside0.mk hb; have HF := Aside0.mk hf; clear hb hf)
        go_ret
        exact ⟨HB.out, p, rfl, HF.out⟩
      · rw [if_neg h0]
        obtain ⟨m1, m2⟩ := str_ne (s := r) (by omega)
        have m3 : (r.toList != []) = true := by rw [bne, m2]; rfl
        clear h0
        go_enter Try.func47, Try.ntmps47
        go_wp2_with (go_at_call 76; (with_reducible refine HR.out.mono ?_); rintro e w2 ⟨hb, p, rfl, hf⟩; have HB := Aside0.mk hb; clear hb hf)
        go_ret
        exact ⟨HB.out, rfl⟩
def impl_FormulaOk.f (a0 : ByteArray) : Option (Bool) := some (fmOf a0).isSome
theorem impl_FormulaOk.calls (a0 : ByteArray) (r : Bool) (w : World) (h : impl_FormulaOk.f a0 = some r) :
    Calls Try.prog 16 #[.string a0] w fun e w' => e = .returned (.bool r) ∧ Below w.heap.size w w' := by
  have HR := Aside0.mk (formulaOf_calls a0 w)
  simp only [impl_FormulaOk.f, Option.some.injEq] at h
  generalize fmOf a0 = o at HR h
  subst h
  cases o with
  | none =>
    go_enter Try.func16, Try.ntmps16
    go_wp2_with (go_at_call 47; (with_reducible refine HR.out.mono ?_); rintro e w2 ⟨hb, rfl⟩; have HB := Aside0.mk hb; clear hb)
    go_ret
    exact ⟨rfl, HB.out⟩
  | some f =>
    go_enter Try.func16, Try.ntmps16
    go_wp2_with (go_at_call 47; (with_reducible refine HR.out.mono ?_); rintro e w2 ⟨hb, p, rfl, hf⟩; have HB := Aside0.mk hb; clear hb hf)
    go_ret
    exact ⟨rfl, HB.out⟩
end Go.Proofs.Ytjoadckkdophnaa.Print
end
section
namespace Go.Proofs.Ytjoadckkdophnaa.Print
open Go.RowKit Go.Proofs.YtjoadckkdophnaaW.PrintWords Go.Proofs.YtjoadckkdophnaaW.PrintLast Go.Proofs.YtjoadckkdophnaaW.PrintMore
attribute [local go_sem] max2_int min2_int max_two min_two max_three min_three max_four min_four   -- for this text's walks alone
set_option linter.unusedVariables false
set_option linter.unusedSimpArgs false
def laws_FnExactFormulaOk.f (k : Nat) (a0 : ByteArray) : Option (Bool) := if (a0.size : Int) > 1048576 then (some true) else ((spec_FormulaOk.f k a0).bind fun t105 => ((impl_FormulaOk.f a0).bind fun t106 => (if (t106 != t105) = true then (some false) else (some true))))
set_option maxHeartbeats 8000000 in
set_option maxRecDepth 100000 in
theorem laws_FnExactFormulaOk.calls (k : Nat) (a0 : ByteArray) (r : Bool) (w : World) (h : laws_FnExactFormulaOk.f k a0 = some r) :
    Calls Try.prog 3 #[.string a0] w fun e w' => e = .returned (.bool r) ∧ Below w.heap.size w w' := by
  have HB := Aside0.mk (Below.refl w.heap.size w)
  have H : (if (a0.size : Int) > 1048576 then (some true) else ((spec_FormulaOk.f k a0).bind fun t105 => ((impl_FormulaOk.f a0).bind fun t106 => (if (t106 != t105) = true then (some false) else (some true))))) = some r := h
  clear h
  by_cases c2 : (a0.size : Int) > 1048576
  · rw [if_pos c2] at H
    have c2b0 : decide (1048576 < (a0.size : Int)) = true := decide_eq_true c2
    have c2b1 : decide (1048576 < a0.size) = true := decide_eq_true (by omega)
    clear c2
    obtain rfl := Option.some.inj H
    go_enter Try.func3, Try.ntmps3
    go_wp2
    go_ret
    exact ⟨by first | rfl | (simp [errW_none, errW_some] <;> rfl) | (simp [*, errW_none, errW_some] <;> rfl), by repeat (first | (with_reducible first | exact HB.out | apply below_alloc | apply pw_below_drewN | apply below_drew1) | exact HB.out)⟩
  · rw [if_neg c2] at H
    have c2b0 : decide (1048576 < (a0.size : Int)) = false := decide_eq_false c2
    have c2b1 : decide (1048576 < a0.size) = false := decide_eq_false (by omega)
    clear c2
    replace H := Option.bind_eq_some_iff.mp H
    obtain ⟨t105, A30, H⟩ := H
    replace H : ((impl_FormulaOk.f a0).bind fun t106 => (if (t106 != t105) = true then (some false) else (some true))) = some r := H
    have A3 := Aside0.mk A30
    clear A30
    replace H := Option.bind_eq_some_iff.mp H
    obtain ⟨t106, A40, H⟩ := H
    replace H : (if (t106 != t105) = true then (some false) else (some true)) = some r := H
    have A4 := Aside0.mk A40
    clear A40
    by_cases c5 : (t106 != t105) = true
    · rw [if_pos c5] at H
      have c5b0 : (t106 != t105) = true := c5
      (try (have c5b1 : decide (t106 = t105) = false := by simpa using c5))
      (try (have c5b2 : (t106 == t105) = false := by simpa using c5))
      (try (have c5b3 : ¬ (t106 = t105) := by simpa using c5))
      clear c5
      obtain rfl := Option.some.inj H
      go_enter Try.func3, Try.ntmps3
      go_wp2_with (first | ((with_reducible refine gate_callee (f := 15) rfl ?_); refine goesL_ (some 9) rfl rfl Try.func15 (by kernel_rfl) rfl #[.string a0] rfl (by (try simp only [List.map_toArray, List.map_cons, List.map_nil]); first | done | rfl | (simp only [List.length_drop, List.length_take]; rfl)) ?_; (with_reducible refine (spec_FormulaOk.calls k a0 t105 _ A3.out).mono ?_); rintro e w' ⟨rfl, ⟨nd, rfl⟩⟩; refine ⟨_, rfl, ?_⟩) | ((with_reducible refine gate_callee (f := 16) rfl ?_); refine goesL_ (some 11) rfl rfl Try.func16 (by kernel_rfl) rfl #[.string a0] rfl (by (try simp only [List.map_toArray, List.map_cons, List.map_nil]); first | done | rfl | (simp only [List.length_drop, List.length_take]; rfl)) ?_; (with_reducible refine (impl_FormulaOk.calls a0 t106 _ A4.out).mono ?_); rintro e w6 ⟨rfl, hb⟩; refine ⟨_, rfl, ?_⟩; have n0_ := Aside0.mk (below_step (by repeat (first | (with_reducible first | exact HB.out | apply below_alloc | apply pw_below_drewN | apply below_drew1) | exact HB.out)) hb); clear HB; have HB := n0_; clear n0_; (try clear hb); (try clear hb2); (try clear hk); (try clear hi)))
      go_ret
      exact ⟨by first | rfl | (simp [errW_none, errW_some] <;> rfl) | (simp [*, errW_none, errW_some] <;> rfl), by repeat (first | (with_reducible first | exact HB.out | apply below_alloc | apply pw_below_drewN | apply below_drew1) | exact HB.out)⟩
    · rw [if_neg c5] at H
      have c5b0 : (t106 != t105) = false := by simpa using c5
      (try (have c5b1 : decide (t106 = t105) = true := by simpa using c5))
      (try (have c5b2 : (t106 == t105) = true := by simpa using c5))
      clear c5
      obtain rfl := Option.some.inj H
      go_enter Try.func3, Try.ntmps3
      go_wp2_with (first | ((with_reducible refine gate_callee (f := 15) rfl ?_); refine goesL_ (some 9) rfl rfl Try.func15 (by kernel_rfl) rfl #[.string a0] rfl (by (try simp only [List.map_toArray, List.map_cons, List.map_nil]); first | done | rfl | (simp only [List.length_drop, List.length_take]; rfl)) ?_; (with_reducible refine (spec_FormulaOk.calls k a0 t105 _ A3.out).mono ?_); rintro e w' ⟨rfl, ⟨nd, rfl⟩⟩; refine ⟨_, rfl, ?_⟩) | ((with_reducible refine gate_callee (f := 16) rfl ?_); refine goesL_ (some 11) rfl rfl Try.func16 (by kernel_rfl) rfl #[.string a0] rfl (by (try simp only [List.map_toArray, List.map_cons, List.map_nil]); first | done | rfl | (simp only [List.length_drop, List.length_take]; rfl)) ?_; (with_reducible refine (impl_FormulaOk.calls a0 t106 _ A4.out).mono ?_); rintro e w7 ⟨rfl, hb⟩; refine ⟨_, rfl, ?_⟩; have n0_ := Aside0.mk (below_step (by repeat (first | (with_reducible first | exact HB.out | apply below_alloc | apply pw_below_drewN | apply below_drew1) | exact HB.out)) hb); clear HB; have HB := n0_; clear n0_; (try clear hb); (try clear hb2); (try clear hk); (try clear hi)))
      go_ret
      exact ⟨by first | rfl | (simp [errW_none, errW_some] <;> rfl) | (simp [*, errW_none, errW_some] <;> rfl), by repeat (first | (with_reducible first | exact HB.out | apply below_alloc | apply pw_below_drewN | apply below_drew1) | exact HB.out)⟩
def laws_FnExactFormulaOk.Pure : Prop := ∀ (a0 : ByteArray), a0.size ≤ 140737488351232 → ∃ k, laws_FnExactFormulaOk.f k a0 = some true
theorem laws_FnExactFormulaOk.walk (P : laws_FnExactFormulaOk.Pure) (a0 : ByteArray) (w : World) (w0 : a0.size ≤ 140737488351232) :
    Calls Try.prog 3 #[.string a0] w fun e w' => e = .returned (.bool true) ∧ Below w.heap.size w w' := by
  obtain ⟨k, h⟩ := P a0 w0
  refine (laws_FnExactFormulaOk.calls k a0 true w h).mono ?_
  rintro e w' ⟨rfl, hd⟩
  exact ⟨rfl, hd⟩
end Go.Proofs.Ytjoadckkdophnaa.Print
end
section
namespace Go.Proofs.Ytjoadckkdophnaa.Print
open Go.RowKit Go.Proofs.YtjoadckkdophnaaW.PrintWords Go.Proofs.YtjoadckkdophnaaW.PrintLast Go.Proofs.YtjoadckkdophnaaW.PrintMore
set_option linter.unusedVariables false
set_option linter.unusedSimpArgs false
open Oml
def sfx (s : ByteArray) (i : Nat) : ByteArray := s.extract i s.size
theorem sfx_size (s : ByteArray) (i : Nat) : (sfx s i).size = s.size - i := by unfold sfx; rw [ByteArray.size_extract]; omega
theorem sfx_zero (s : ByteArray) : sfx s 0 = s := by unfold sfx; exact ByteArray.extract_zero_size
theorem sfx_next (s : ByteArray) {i : Nat} (h : i < s.size) : (sfx s i).extract 1 (sfx s i).size = sfx s (i + 1) := by
  rw [sfx_size]
  unfold sfx
  rw [ByteArray.extract_extract]
  congr 1
  omega
theorem sfx_bt (s : ByteArray) {i : Nat} (h : i < s.size) : bt (sfx s i) 0 = bt s (i : Int) := by
  have h1 : 0 < (sfx s i).size := by rw [sfx_size]; omega
  have e1 := bt_at (sfx s i) 0 h1
  have e2 := bt_at s (i : Int) (by rw [Int.toNat_natCast]; exact h)
  rw [← e1, ← e2]
  have e3 : (sfx s i)[0]'h1 = s[i] := by
    have h3 : 0 < (s.extract i s.size).size := h1
    have h4 : (s.extract i s.size)[0]'h3 = s[i + 0] := ByteArray.getElem_extract h3
    exact h4
  have e4 : (s[((i : Nat) : Int).toNat]'(by rw [Int.toNat_natCast]; exact h)) = s[i] := by congr 1
  rw [e4, ← e3]
  rfl
theorem rdF_sfx (s : ByteArray) : ∀ (k i : Nat) (f : Fm) (r : ByteArray), i ≤ s.size → rdF k (sfx s i) = some (f, r) → ∃ j, i < j ∧ j ≤ s.size ∧ r = sfx s j
  | 0, _, _, _, _, h => by simp [rdF] at h
  | k + 1, i, f, r, hi, h => by
    have ih := rdF_sfx s k
    simp only [rdF] at h
    split at h
    · cases h
    · rename_i h0
      rw [sfx_size] at h0
      have hlt : i < s.size := by omega
      rw [sfx_next s hlt] at h
      split at h
      · cases h; exact ⟨i + 1, by omega, by omega, rfl⟩
      · split at h
        · split at h
          · cases h
          · rename_i f1 r1 h1
            cases h
            obtain ⟨j, a, b, c⟩ := ih (i + 1) _ _ (by omega) h1
            exact ⟨j, by omega, b, c⟩
        · split at h
          · split at h
            · cases h
            · rename_i f1 r1 h1
              obtain ⟨j, a, b, rfl⟩ := ih (i + 1) _ _ (by omega) h1
              split at h
              · cases h
              · rename_i h2
                rw [sfx_size] at h2
                rw [sfx_next s (by omega)] at h
                split at h
                · split at h
                  · cases h
                  · rename_i g q h3
                    obtain ⟨m, a2, b2, rfl⟩ := ih (j + 1) _ _ (by omega) h3
                    split at h
                    · cases h
                    · rename_i h4
                      rw [sfx_size] at h4
                      rw [sfx_next s (by omega)] at h
                      split at h
                      · cases h; exact ⟨m + 1, by omega, by omega, rfl⟩
                      · cases h
                · cases h
          · cases h
def endV (s : ByteArray) (o : Option (Fm × ByteArray)) : Int := match o with | none => -1 | some (_, r) => ((s.size - r.size : Nat) : Int)
theorem rdF_leaf {k : Nat} {s : ByteArray} {i : Nat} (h : i < s.size) (hl : isLeaf (bt s i)) : rdF (k + 1) (sfx s i) = some (.leaf (bt s i), sfx s (i + 1)) := by
  simp only [rdF]
  rw [if_neg (by rw [sfx_size]; omega), sfx_bt s h, if_pos hl, sfx_next s h]
theorem rdF_neg {k : Nat} {s : ByteArray} {i : Nat} (h : i < s.size) (hc : bt s i = 33) : rdF (k + 1) (sfx s i) = (rdF k (sfx s (i + 1))).map fun fr => (.neg fr.1, fr.2) := by
  simp only [rdF]
  rw [if_neg (by rw [sfx_size]; omega), sfx_bt s h, if_neg (by rw [hc]; unfold isLeaf; omega), if_pos hc, sfx_next s h]
  cases rdF k (sfx s (i + 1)) <;> rfl
theorem rdF_par {k : Nat} {s : ByteArray} {i : Nat} (h : i < s.size) (hc : bt s i = 40) : rdF (k + 1) (sfx s i) = (rdF k (sfx s (i + 1))).bind fun fr => if fr.2.size = 0 then none else if bt fr.2 0 = 38 ∨ bt fr.2 0 = 124 then (rdF k (fr.2.extract 1 fr.2.size)).bind fun gq => if gq.2.size = 0 then none else if bt gq.2 0 = 41 then some (.bin (bt fr.2 0) fr.1 gq.1, gq.2.extract 1 gq.2.size) else none else none := by
  simp only [rdF]
  rw [if_neg (by rw [sfx_size]; omega), sfx_bt s h, if_neg (by rw [hc]; unfold isLeaf; omega), if_neg (by rw [hc]; omega), if_pos hc, sfx_next s h]
  rcases rdF k (sfx s (i + 1)) with _ | ⟨f, r⟩
  · rfl
  simp only [Option.bind_some]
  split
  · rfl
  split
  · rcases rdF k (r.extract 1 r.size) with _ | ⟨g, q⟩ <;> rfl
  · rfl
theorem rdF_other {k : Nat} {s : ByteArray} {i : Nat} (h : i < s.size) (hl : ¬ isLeaf (bt s i)) (h1 : ¬ bt s i = 33) (h2 : ¬ bt s i = 40) : rdF (k + 1) (sfx s i) = none := by
  simp only [rdF]
  rw [if_neg (by rw [sfx_size]; omega), sfx_bt s h, if_neg hl, if_neg h1, if_neg h2]
theorem rdF_end {k : Nat} {s : ByteArray} {i : Nat} (h : s.size ≤ i) : rdF k (sfx s i) = none := by
  cases k with
  | zero => rfl
  | succ k => simp only [rdF]; rw [if_pos (by rw [sfx_size]; omega)]
theorem l10End_j1 (s : ByteArray) (hs : s.size ≤ 1000000) (j : Nat) (V : Int) (hj : j < s.size) (hev : Ev (fun m => spec_l10End.f m s ((j + 1 : Nat) : Int)) V) (hV : V = -1 ∨ ∃ m : Nat, V = (m : Int)) :
    Ev (fun m => spec_l10End.j1 m s (j : Int) false) (if 0 ≤ V ∧ V < (s.size : Int) ∧ bt s V = 41 then V + 1 else -1) := by
  refine Ev.succ ?_
  simp only [spec_l10End.j1, wrap_nat (show j < 4611686018427387904 by omega)]
  repeat (first | ((with_reducible refine Ev.ite_pos ?_ ?_); (first | assumption | (focus omega) | (focus (simp; done)))) | ((with_reducible refine Ev.ite_neg ?_ ?_); (first | assumption | (focus omega) | (focus (simp; done)))))
  refine Ev.bind hev ?_
  rcases hV with rfl | ⟨m, rfl⟩
  · repeat (first | ((with_reducible refine Ev.ite_pos ?_ ?_); (first | assumption | (focus omega) | (focus (simp; done)))) | ((with_reducible refine Ev.ite_neg ?_ ?_); (first | assumption | (focus omega) | (focus (simp; done)))))
    exact Ev.now _
  · by_cases h1 : m < s.size
    · by_cases h2 : bt s (m : Int) = 41
      · repeat (first | ((with_reducible refine Ev.ite_pos ?_ ?_); (first | assumption | (focus omega) | (focus (simp; done)))) | ((with_reducible refine Ev.ite_neg ?_ ?_); (first | assumption | (focus omega) | (focus (simp; done)))))
        rw [if_pos ⟨by omega, by omega, h2⟩, wrap_nat (show m < 4611686018427387904 by omega)]
        exact Ev.now _
      · repeat (first | ((with_reducible refine Ev.ite_pos ?_ ?_); (first | assumption | (focus omega) | (focus (simp; done)))) | ((with_reducible refine Ev.ite_neg ?_ ?_); (first | assumption | (focus omega) | (focus (simp; done)))))
        rw [if_neg (fun h => h2 h.2.2)]
        exact Ev.now _
    · repeat (first | ((with_reducible refine Ev.ite_pos ?_ ?_); (first | assumption | (focus omega) | (focus (simp; done)))) | ((with_reducible refine Ev.ite_neg ?_ ?_); (first | assumption | (focus omega) | (focus (simp; done)))))
      rw [if_neg (fun h => h1 (by omega))]
      exact Ev.now _
theorem l10End_ev (s : ByteArray) (hs : s.size ≤ 1000000) : ∀ k i, i ≤ s.size → s.size - i ≤ k → Ev (fun m => spec_l10End.f m s (i : Int)) (endV s (rdF k (sfx s i))) := by
  intro k
  induction k with
  | zero =>
    intro i hi hk
    rw [rdF_end (by omega)]
    refine Ev.succ ?_
    simp only [spec_l10End.f]
    repeat (first | ((with_reducible refine Ev.ite_pos ?_ ?_); (first | assumption | (focus omega) | (focus (simp; done)))) | ((with_reducible refine Ev.ite_neg ?_ ?_); (first | assumption | (focus omega) | (focus (simp; done)))))
    exact Ev.now _
  | succ k ih =>
    intro i hi hk
    by_cases hlt : i < s.size
    · have hw : wrap64 ((i : Int) + 1) = ((i + 1 : Nat) : Int) := wrap_nat (by omega)
      by_cases hl : isLeaf (bt s i)
      · rw [rdF_leaf hlt hl]
        have hv : endV s (some (Fm.leaf (bt s i), sfx s (i + 1))) = ((i + 1 : Nat) : Int) := by
          show ((s.size - (sfx s (i + 1)).size : Nat) : Int) = _
          rw [sfx_size]; omega
        rw [hv]
        have J : ∀ c, Ev (fun m => spec_l10End.j0 m s (i : Int) c true) ((i + 1 : Nat) : Int) := by
          intro c
          refine Ev.succ ?_
          simp only [spec_l10End.j0, hw]
          repeat (first | ((with_reducible refine Ev.ite_pos ?_ ?_); (first | assumption | (focus omega) | (focus (simp; done)))) | ((with_reducible refine Ev.ite_neg ?_ ?_); (first | assumption | (focus omega) | (focus (simp; done)))))
          exact Ev.now _
        refine Ev.succ ?_
        simp only [spec_l10End.f]
        repeat (first | ((with_reducible refine Ev.ite_pos ?_ ?_); (first | assumption | (focus omega) | (focus (simp; done)))) | ((with_reducible refine Ev.ite_neg ?_ ?_); (first | assumption | (focus omega) | (focus (simp; done)))))
        unfold isLeaf at hl
        by_cases h97 : bt s (i : Int) = 97
        · repeat (first | ((with_reducible refine Ev.ite_pos ?_ ?_); (first | assumption | (focus omega) | (focus (simp; done)))) | ((with_reducible refine Ev.ite_neg ?_ ?_); (first | assumption | (focus omega) | (focus (simp; done)))))
          rw [show (bt s (i : Int) == 97) = true by rw [h97]; rfl]; exact J _
        by_cases h98 : bt s (i : Int) = 98
        · repeat (first | ((with_reducible refine Ev.ite_pos ?_ ?_); (first | assumption | (focus omega) | (focus (simp; done)))) | ((with_reducible refine Ev.ite_neg ?_ ?_); (first | assumption | (focus omega) | (focus (simp; done)))))
          rw [show (bt s (i : Int) == 98) = true by rw [h98]; rfl]; exact J _
        by_cases h99 : bt s (i : Int) = 99
        · repeat (first | ((with_reducible refine Ev.ite_pos ?_ ?_); (first | assumption | (focus omega) | (focus (simp; done)))) | ((with_reducible refine Ev.ite_neg ?_ ?_); (first | assumption | (focus omega) | (focus (simp; done)))))
          rw [show (bt s (i : Int) == 99) = true by rw [h99]; rfl]; exact J _
        by_cases h48 : bt s (i : Int) = 48
        · repeat (first | ((with_reducible refine Ev.ite_pos ?_ ?_); (first | assumption | (focus omega) | (focus (simp; done)))) | ((with_reducible refine Ev.ite_neg ?_ ?_); (first | assumption | (focus omega) | (focus (simp; done)))))
          rw [show (bt s (i : Int) == 48) = true by rw [h48]; rfl]; exact J _
        have h49 : bt s (i : Int) = 49 := by omega
        repeat (first | ((with_reducible refine Ev.ite_pos ?_ ?_); (first | assumption | (focus omega) | (focus (simp; done)))) | ((with_reducible refine Ev.ite_neg ?_ ?_); (first | assumption | (focus omega) | (focus (simp; done)))))
        rw [show (bt s (i : Int) == 49) = true by rw [h49]; rfl]; exact J _
      · have go : ∀ V, Ev (fun m => spec_l10End.j0 m s (i : Int) (bt s (i : Int)) false) V → Ev (fun m => spec_l10End.f m s (i : Int)) V := by
          intro V hV
          refine Ev.succ ?_
          simp only [spec_l10End.f]
          unfold isLeaf at hl
          have h97 : ¬ bt s (i : Int) = 97 := fun e => hl (by omega)
          have h98 : ¬ bt s (i : Int) = 98 := fun e => hl (by omega)
          have h99 : ¬ bt s (i : Int) = 99 := fun e => hl (by omega)
          have h48 : ¬ bt s (i : Int) = 48 := fun e => hl (by omega)
          have h49 : (bt s (i : Int) == 49) = false := beq_eq_false_iff_ne.2 fun e => hl (by omega)
          repeat (first | ((with_reducible refine Ev.ite_pos ?_ ?_); (first | assumption | (focus omega) | (focus (simp; done)))) | ((with_reducible refine Ev.ite_neg ?_ ?_); (first | assumption | (focus omega) | (focus (simp; done)))))
          rw [h49]
          exact hV
        refine go _ (Ev.succ ?_)
        simp only [spec_l10End.j0, hw]
        have hI := ih (i + 1) (by omega) (by omega)
        by_cases h33 : bt s (i : Int) = 33
        · rw [rdF_neg hlt h33]
          repeat (first | ((with_reducible refine Ev.ite_pos ?_ ?_); (first | assumption | (focus omega) | (focus (simp; done)))) | ((with_reducible refine Ev.ite_neg ?_ ?_); (first | assumption | (focus omega) | (focus (simp; done)))))
          refine Ev.bind hI ?_
          refine Ev.eq (Ev.now _) ?_
          cases rdF k (sfx s (i + 1)) <;> rfl
        · by_cases h40 : bt s (i : Int) = 40
          · rw [rdF_par hlt h40]
            repeat (first | ((with_reducible refine Ev.ite_pos ?_ ?_); (first | assumption | (focus omega) | (focus (simp; done)))) | ((with_reducible refine Ev.ite_neg ?_ ?_); (first | assumption | (focus omega) | (focus (simp; done)))))
            refine Ev.bind hI ?_
            have hsx := rdF_sfx s k (i + 1)
            rcases hrd : rdF k (sfx s (i + 1)) with _ | ⟨f, r⟩
            · have e1 : endV s none < 0 := by show (-1 : Int) < 0; omega
              repeat (first | ((with_reducible refine Ev.ite_pos ?_ ?_); (first | assumption | (focus omega) | (focus (simp; done)))) | ((with_reducible refine Ev.ite_neg ?_ ?_); (first | assumption | (focus omega) | (focus (simp; done)))))
              refine Ev.succ ?_
              simp only [spec_l10End.j1]
              repeat (first | ((with_reducible refine Ev.ite_pos ?_ ?_); (first | assumption | (focus omega) | (focus (simp; done)))) | ((with_reducible refine Ev.ite_neg ?_ ?_); (first | assumption | (focus omega) | (focus (simp; done)))))
              exact Ev.now _
            · obtain ⟨j, ha, hb, rfl⟩ := hsx f r (by omega) hrd
              have e1 : endV s (some (f, sfx s j)) = (j : Int) := by
                show ((s.size - (sfx s j).size : Nat) : Int) = _
                rw [sfx_size]; omega
              rw [e1]
              simp only [Option.bind_some]
              by_cases hj : j < s.size
              · rw [if_neg (by rw [sfx_size]; omega), sfx_bt s hj, sfx_next s hj]
                repeat (first | ((with_reducible refine Ev.ite_pos ?_ ?_); (first | assumption | (focus omega) | (focus (simp; done)))) | ((with_reducible refine Ev.ite_neg ?_ ?_); (first | assumption | (focus omega) | (focus (simp; done)))))
                have hJ := ih (j + 1) (by omega) (by omega)
                have hsx2 := rdF_sfx s k (j + 1)
                have hval : (∀ ob : Option (Fm × ByteArray), rdF k (sfx s (j + 1)) = ob → Ev (fun m => spec_l10End.j1 m s (j : Int) false) (endV s (ob.bind fun gq => if gq.2.size = 0 then none else if bt gq.2 0 = 41 then some (Fm.bin (bt s j) f gq.1, gq.2.extract 1 gq.2.size) else none))) := by
                  intro ob hob
                  rw [hob] at hJ hsx2
                  cases ob with
                  | none =>
                    refine Ev.eq (l10End_j1 s hs j (endV s none) hj hJ (.inl rfl)) ?_
                    rw [if_neg (fun h => by have : (0 : Int) ≤ -1 := h.1; omega)]; rfl
                  | some gq =>
                    obtain ⟨g, q⟩ := gq
                    obtain ⟨m, hc, hd, rfl⟩ := hsx2 g q (by omega) rfl
                    have e2 : endV s (some (g, sfx s m)) = (m : Int) := by
                      show ((s.size - (sfx s m).size : Nat) : Int) = _
                      rw [sfx_size]; omega
                    rw [e2] at hJ
                    refine Ev.eq (l10End_j1 s hs j (m : Int) hj hJ (.inr ⟨m, rfl⟩)) ?_
                    simp only [Option.bind_some]
                    by_cases hm : m < s.size
                    · rw [if_neg (show ¬ (sfx s m).size = 0 by rw [sfx_size]; omega), sfx_bt s hm, sfx_next s hm]
                      by_cases h41 : bt s (m : Int) = 41
                      · rw [if_pos ⟨by omega, by omega, h41⟩, if_pos h41]
                        show (m : Int) + 1 = ((s.size - (sfx s (m + 1)).size : Nat) : Int)
                        rw [sfx_size]; omega
                      · rw [if_neg (fun h => h41 h.2.2), if_neg h41]; rfl
                    · rw [if_neg (fun h => hm (by omega)), if_pos (by rw [sfx_size]; omega)]; rfl
                by_cases h38 : bt s (j : Int) = 38
                · rw [if_pos (.inl h38)]
                  repeat (first | ((with_reducible refine Ev.ite_pos ?_ ?_); (first | assumption | (focus omega) | (focus (simp; done)))) | ((with_reducible refine Ev.ite_neg ?_ ?_); (first | assumption | (focus omega) | (focus (simp; done)))))
                  exact hval _ rfl
                · by_cases h124 : bt s (j : Int) = 124
                  · rw [if_pos (.inr h124)]
                    repeat (first | ((with_reducible refine Ev.ite_pos ?_ ?_); (first | assumption | (focus omega) | (focus (simp; done)))) | ((with_reducible refine Ev.ite_neg ?_ ?_); (first | assumption | (focus omega) | (focus (simp; done)))))
                    rw [show (bt s (j : Int) != 124) = false by rw [h124]; rfl]
                    exact hval _ rfl
                  · rw [if_neg (fun h => h.elim h38 h124)]
                    repeat (first | ((with_reducible refine Ev.ite_pos ?_ ?_); (first | assumption | (focus omega) | (focus (simp; done)))) | ((with_reducible refine Ev.ite_neg ?_ ?_); (first | assumption | (focus omega) | (focus (simp; done)))))
                    rw [show (bt s (j : Int) != 124) = true from bne_iff_ne.2 h124]
                    refine Ev.succ ?_
                    simp only [spec_l10End.j1]
                    repeat (first | ((with_reducible refine Ev.ite_pos ?_ ?_); (first | assumption | (focus omega) | (focus (simp; done)))) | ((with_reducible refine Ev.ite_neg ?_ ?_); (first | assumption | (focus omega) | (focus (simp; done)))))
                    exact Ev.now _
              · rw [if_pos (by rw [sfx_size]; omega)]
                repeat (first | ((with_reducible refine Ev.ite_pos ?_ ?_); (first | assumption | (focus omega) | (focus (simp; done)))) | ((with_reducible refine Ev.ite_neg ?_ ?_); (first | assumption | (focus omega) | (focus (simp; done)))))
                refine Ev.succ ?_
                simp only [spec_l10End.j1]
                repeat (first | ((with_reducible refine Ev.ite_pos ?_ ?_); (first | assumption | (focus omega) | (focus (simp; done)))) | ((with_reducible refine Ev.ite_neg ?_ ?_); (first | assumption | (focus omega) | (focus (simp; done)))))
                exact Ev.now _
          · rw [rdF_other hlt hl h33 h40]
            repeat (first | ((with_reducible refine Ev.ite_pos ?_ ?_); (first | assumption | (focus omega) | (focus (simp; done)))) | ((with_reducible refine Ev.ite_neg ?_ ?_); (first | assumption | (focus omega) | (focus (simp; done)))))
            exact Ev.now _
    · rw [rdF_end (by omega)]
      refine Ev.succ ?_
      simp only [spec_l10End.f]
      repeat (first | ((with_reducible refine Ev.ite_pos ?_ ?_); (first | assumption | (focus omega) | (focus (simp; done)))) | ((with_reducible refine Ev.ite_neg ?_ ?_); (first | assumption | (focus omega) | (focus (simp; done)))))
      exact Ev.now _
theorem spec_FormulaOk.ev (s : ByteArray) : Ev (fun k => spec_FormulaOk.f k s) (fmOf s).isSome := by
  unfold spec_FormulaOk.f fmOf
  by_cases h : 60 < s.size
  · rw [if_pos h]
    repeat (first | ((with_reducible refine Ev.ite_pos ?_ ?_); (first | assumption | (focus omega) | (focus (simp; done)))) | ((with_reducible refine Ev.ite_neg ?_ ?_); (first | assumption | (focus omega) | (focus (simp; done)))))
    exact Ev.now _
  · rw [if_neg h]
    by_cases h0 : s.size = 0
    · have hr : rdF s.size s = none := by rw [h0]; rfl
      rw [hr]
      repeat (first | ((with_reducible refine Ev.ite_pos ?_ ?_); (first | assumption | (focus omega) | (focus (simp; done)))) | ((with_reducible refine Ev.ite_neg ?_ ?_); (first | assumption | (focus omega) | (focus (simp; done)))))
      exact Ev.now _
    · repeat (first | ((with_reducible refine Ev.ite_pos ?_ ?_); (first | assumption | (focus omega) | (focus (simp; done)))) | ((with_reducible refine Ev.ite_neg ?_ ?_); (first | assumption | (focus omega) | (focus (simp; done)))))
      have hE := l10End_ev s (by omega) s.size 0 (by omega) (by omega)
      have hsx := rdF_sfx s s.size 0
      rw [sfx_zero] at hE hsx
      refine Ev.bind hE ?_
      rcases hrd : rdF s.size s with _ | ⟨f, r⟩
      · refine Ev.eq (Ev.now _) ?_
        show ((-1 : Int) == (s.size : Int)) = false
        rw [beq_eq_false_iff_ne]; omega
      · obtain ⟨j, ha, hb, rfl⟩ := hsx f r (by omega) hrd
        refine Ev.eq (Ev.now _) ?_
        show (((s.size - (sfx s j).size : Nat) : Int) == (s.size : Int)) = (if (sfx s j).size = 0 then some f else none).isSome
        rw [sfx_size]
        by_cases hj : j = s.size
        · rw [if_pos (by omega)]
          show _ = true
          rw [beq_iff_eq]; omega
        · rw [if_neg (by omega)]
          show _ = false
          rw [beq_eq_false_iff_ne]; omega
end Go.Proofs.Ytjoadckkdophnaa.Print
end
section
namespace Go.Proofs.Ytjoadckkdophnaa.Pure
open Go.RowKit Go.Proofs.Ytjoadckkdophnaa.Print Go.Proofs.YtjoadckkdophnaaW.PrintWords Go.Proofs.YtjoadckkdophnaaW.PrintLast Go.Proofs.YtjoadckkdophnaaW.PrintMore
theorem laws_FnExactFormulaOk.ev (s : ByteArray) : Ev (fun k => laws_FnExactFormulaOk.f k s) true := by
  unfold laws_FnExactFormulaOk.f
  by_cases h : (s.size : Int) > 1048576
  · repeat (first | ((with_reducible refine Ev.ite_pos ?_ ?_); (first | assumption | (focus omega) | (focus (simp; done)))) | ((with_reducible refine Ev.ite_neg ?_ ?_); (first | assumption | (focus omega) | (focus (simp; done)))))
    exact Ev.now _
  · repeat (first | ((with_reducible refine Ev.ite_pos ?_ ?_); (first | assumption | (focus omega) | (focus (simp; done)))) | ((with_reducible refine Ev.ite_neg ?_ ?_); (first | assumption | (focus omega) | (focus (simp; done)))))
    refine Ev.bind (spec_FormulaOk.ev s) ?_
    refine Ev.pbind rfl ?_
    repeat (first | ((with_reducible refine Ev.ite_pos ?_ ?_); (first | assumption | (focus omega) | (focus (simp; done)))) | ((with_reducible refine Ev.ite_neg ?_ ?_); (first | assumption | (focus omega) | (focus (simp; done)))))
    exact Ev.now _
theorem FnExactFormulaOk : laws_FnExactFormulaOk.Pure := fun s _ => (laws_FnExactFormulaOk.ev s).rounds
end Go.Proofs.Ytjoadckkdophnaa.Pure
end
