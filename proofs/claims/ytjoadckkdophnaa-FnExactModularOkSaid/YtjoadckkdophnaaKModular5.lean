/- Part 5 of what this is proved by: The program's ModularOk returns what the reference's returns, for all arguments. No condition. -/
import Derived.Test.YtjoadckkdophnaaKModular4
import Derived.Below
import Derived.Deep.Draws
import Derived.Deep.AppendLies
import Derived.Maps.AppendAt
import Derived.OwnWalk
import Derived.Laws.BytesArg
import Derived.Laws.MakeOwn
import Derived.Laws.OwnMore
import Derived.Deep.OwnRows
import Derived.Tactics
import Derived.Lib.ConvBytes
import Derived.Laws.Slices
import Derived.WalkKit
import Derived.KernelRfl
import Derived.RowKit3
import Derived.Deep.LoopGhost
import Derived.Deep.QuietTactic
import Derived.BigQuiet
import Derived.WideLaws
import Derived.Deep.DeepCutAuto
import Derived.Deep.CutBlock
import Derived.Deep.RegionHeld3
import Derived.Laws.Rows
import Derived.Lib.AppendStr
import Derived.ArgAppend
import Derived.Laws.IdiomCopy
import Derived.RowKit
import Derived.OrdersHeld
import Derived.Laws.BitsLemmas
import Derived.Test.YtjoadckkdophnaaProg
import Derived.Deep.Matrix
import Derived.Lib.SmallJoins
section
namespace Go.Proofs.Ytjoadckkdophnaa.Print
open Go.RowKit Go.Proofs.YtjoadckkdophnaaW.PrintWords Go.Proofs.YtjoadckkdophnaaW.PrintLast Go.Proofs.YtjoadckkdophnaaW.PrintMore
set_option linter.unusedVariables false
set_option linter.unusedSimpArgs false
open Oml
def Best (n : Nat) (lb : Nat → Bool) (le : Nat → Nat → Bool) (i : Nat) (x : Int) : Prop :=
  (x = -1 ∧ ∀ j, j < i → lb j = false) ∨ ∃ c : Nat, x = c ∧ c < i ∧ lb c = true ∧ ∀ j, j < i → lb j = true → (∀ d, d < n → lb d = true → le d j = true) → j = c
theorem Best.zero {n : Nat} {lb : Nat → Bool} {le : Nat → Nat → Bool} : Best n lb le 0 (-1) := .inl ⟨rfl, fun _ h => absurd h (Nat.not_lt_zero _)⟩
theorem Best.skip {n i : Nat} {lb : Nat → Bool} {le : Nat → Nat → Bool} {x : Int} (h : Best n lb le i x) (hi : lb i = false) : Best n lb le (i + 1) x := by
  rcases h with ⟨h1, h2⟩ | ⟨c, h1, h2, h3, h4⟩
  · refine .inl ⟨h1, fun j hj => ?_⟩
    rcases Nat.lt_or_ge j i with h | h
    · exact h2 j h
    · obtain rfl : j = i := by omega
      exact hi
  · refine .inr ⟨c, h1, by omega, h3, fun j hj k1 k2 => ?_⟩
    rcases Nat.lt_or_ge j i with h | h
    · exact h4 j h k1 k2
    · obtain rfl : j = i := by omega
      rw [hi] at k1; exact absurd k1 (by simp)
theorem Best.first {n i : Nat} {lb : Nat → Bool} {le : Nat → Nat → Bool} (h : Best n lb le i (-1)) (hi : lb i = true) : Best n lb le (i + 1) (i : Int) := by
  rcases h with ⟨h1, h2⟩ | ⟨c, h1, h2, h3, h4⟩
  · refine .inr ⟨i, rfl, by omega, hi, fun j hj k1 _ => ?_⟩
    rcases Nat.lt_or_ge j i with h | h
    · rw [h2 j h] at k1; exact absurd k1 (by simp)
    · omega
  · omega
theorem Best.up {n i c : Nat} {lb : Nat → Bool} {le : Nat → Nat → Bool} (ha : ∀ a b, a < n → b < n → le a b = true → le b a = true → a = b) (hn : i < n) (h : Best n lb le i (c : Int)) (hi : lb i = true) (hc : le c i = true) : Best n lb le (i + 1) (i : Int) := by
  rcases h with ⟨h1, h2⟩ | ⟨c', h1, h2, h3, h4⟩
  · omega
  · obtain rfl : c = c' := by omega
    refine .inr ⟨i, rfl, by omega, hi, fun j hj k1 k2 => ?_⟩
    rcases Nat.lt_or_ge j i with h | h
    · obtain rfl := h4 j h k1 k2
      exact ha j i (by omega) hn hc (k2 i hn hi)
    · omega
theorem Best.stay {n i c : Nat} {lb : Nat → Bool} {le : Nat → Nat → Bool} (hn : i < n) (h : Best n lb le i (c : Int)) (hc : le c i = false) : Best n lb le (i + 1) (c : Int) := by
  rcases h with ⟨h1, h2⟩ | ⟨c', h1, h2, h3, h4⟩
  · omega
  · obtain rfl : c = c' := by omega
    refine .inr ⟨c, rfl, by omega, h3, fun j hj k1 k2 => ?_⟩
    rcases Nat.lt_or_ge j i with h | h
    · exact h4 j h k1 k2
    · obtain rfl : j = i := by omega
      have := k2 c (by omega) h3
      rw [hc] at this; exact absurd this (by simp)
section
variable {U : List (List Int)} (O : Order U)
include O
theorem spec_l1Meet.ev {a b : Nat} (ha : a < U.length) (hb : b < U.length) : Ev (fun k => spec_l1Meet.f k U a b) (mI U a b) := by
  have hs := O.small
  unfold spec_l1Meet.f
  refine Ev.loop (g := fun k s i => spec_l1Meet.l0 k U a b s i) U.length (Best U.length (fun i => leB U i a && leB U i b) (leB U)) (by omega) (fun s h => ?_) (fun i s hi h => ?_) (-1) Best.zero
  · refine Ev.succ ?_
    simp only [spec_l1Meet.l0]
    repeat (first | ((with_reducible refine Ev.ite_pos ?_ ?_); (first | assumption | (focus omega) | (focus (simp; done)))) | ((with_reducible refine Ev.ite_neg ?_ ?_); (first | assumption | (focus omega) | (focus (simp; done)))))
    rcases h with ⟨rfl, h⟩ | ⟨c, rfl, hc, h1, h2⟩
    · have e : meetO U a b = none := findN_none.2 fun i hi => by
        have : (leB U i a && leB U i b) = false := h i hi
        unfold meetP; rw [← Bool.and_assoc, this]; rfl
      unfold mI
      rw [e]
      refine Ev.eq (Ev.all (n := U.length) (g := fun k i => spec_l1Meet.l1 k U a b (-1) i) (fun _ => true) (go := -1) (stop := -1) (by omega) (fun _ => ?_) fun i hi _ R hR => ?_) (by split <;> rfl)
      · refine Ev.succ ?_
        simp only [spec_l1Meet.l1]
        repeat (first | ((with_reducible refine Ev.ite_pos ?_ ?_); (first | assumption | (focus omega) | (focus (simp; done)))) | ((with_reducible refine Ev.ite_neg ?_ ?_); (first | assumption | (focus omega) | (focus (simp; done)))))
        exact Ev.now _
      · refine Ev.succ ?_
        have hrow := O.row i hi
        have va := O.val hi ha
        have vb := O.val hi hb
        have hab : (leB U i a && leB U i b) = false := h i hi
        simp only [spec_l1Meet.l1, rdL_nat, rd_nat, rd_row, hrow, va, vb]
        repeat (first | ((with_reducible refine Ev.ite_pos ?_ ?_); (first | assumption | (focus omega) | (focus (simp; done)))) | ((with_reducible refine Ev.ite_neg ?_ ?_); (first | assumption | (focus omega) | (focus (simp; done)))))
        cases xa : leB U i a with
        | false => repeat (first | ((with_reducible refine Ev.ite_pos ?_ ?_); (first | assumption | (focus omega) | (focus (simp; done)))) | ((with_reducible refine Ev.ite_neg ?_ ?_); (first | assumption | (focus omega) | (focus (simp; done)))))
                   exact hR rfl
        | true =>
          cases xb : leB U i b with
          | false => repeat (first | ((with_reducible refine Ev.ite_pos ?_ ?_); (first | assumption | (focus omega) | (focus (simp; done)))) | ((with_reducible refine Ev.ite_neg ?_ ?_); (first | assumption | (focus omega) | (focus (simp; done)))))
                     exact hR rfl
          | true => rw [xa, xb] at hab; exact absurd hab (by simp)
    · replace h1 : (leB U c a && leB U c b) = true := h1
      refine Ev.eq (Ev.all (n := U.length) (g := fun k i => spec_l1Meet.l1 k U a b c i) (fun d => !(leB U d a && leB U d b) || leB U d c) (go := (c : Int)) (stop := -1) (by omega) (fun _ => ?_) fun i hi _ R hR => ?_) ?_
      · refine Ev.succ ?_
        simp only [spec_l1Meet.l1]
        repeat (first | ((with_reducible refine Ev.ite_pos ?_ ?_); (first | assumption | (focus omega) | (focus (simp; done)))) | ((with_reducible refine Ev.ite_neg ?_ ?_); (first | assumption | (focus omega) | (focus (simp; done)))))
        exact Ev.now _
      · refine Ev.succ ?_
        have hrow := O.row i hi
        have va := O.val hi ha
        have vb := O.val hi hb
        have vc := O.val hi hc
        simp only [spec_l1Meet.l1, rdL_nat, rd_nat, rd_row, hrow, va, vb, vc]
        repeat (first | ((with_reducible refine Ev.ite_pos ?_ ?_); (first | assumption | (focus omega) | (focus (simp; done)))) | ((with_reducible refine Ev.ite_neg ?_ ?_); (first | assumption | (focus omega) | (focus (simp; done)))))
        cases xa : leB U i a with
        | false => repeat (first | ((with_reducible refine Ev.ite_pos ?_ ?_); (first | assumption | (focus omega) | (focus (simp; done)))) | ((with_reducible refine Ev.ite_neg ?_ ?_); (first | assumption | (focus omega) | (focus (simp; done)))))
                   exact hR (by simp [xa])
        | true =>
          repeat (first | ((with_reducible refine Ev.ite_pos ?_ ?_); (first | assumption | (focus omega) | (focus (simp; done)))) | ((with_reducible refine Ev.ite_neg ?_ ?_); (first | assumption | (focus omega) | (focus (simp; done)))))
          cases xb : leB U i b with
          | false => repeat (first | ((with_reducible refine Ev.ite_pos ?_ ?_); (first | assumption | (focus omega) | (focus (simp; done)))) | ((with_reducible refine Ev.ite_neg ?_ ?_); (first | assumption | (focus omega) | (focus (simp; done)))))
                     exact hR (by simp [xa, xb])
          | true =>
            repeat (first | ((with_reducible refine Ev.ite_pos ?_ ?_); (first | assumption | (focus omega) | (focus (simp; done)))) | ((with_reducible refine Ev.ite_neg ?_ ?_); (first | assumption | (focus omega) | (focus (simp; done)))))
            cases xc : leB U i c with
            | false => repeat (first | ((with_reducible refine Ev.ite_pos ?_ ?_); (first | assumption | (focus omega) | (focus (simp; done)))) | ((with_reducible refine Ev.ite_neg ?_ ?_); (first | assumption | (focus omega) | (focus (simp; done)))))
                       exact Ev.now _
            | true => repeat (first | ((with_reducible refine Ev.ite_pos ?_ ?_); (first | assumption | (focus omega) | (focus (simp; done)))) | ((with_reducible refine Ev.ite_neg ?_ ?_); (first | assumption | (focus omega) | (focus (simp; done)))))
                      exact hR (by simp [xc])
      · unfold mI
        have hP : meetP U a b c = allN U.length fun d => !(leB U d a && leB U d b) || leB U d c := by unfold meetP; rw [← Bool.and_assoc, h1]; rfl
        rw [← hP]
        cases hp : meetP U a b c with
        | true => rw [O.meet_eq hc hp]; rfl
        | false =>
          cases e : meetO U a b with
          | none => rfl
          | some m =>
            obtain ⟨k1, k2⟩ := findN_some e
            obtain ⟨q1, q2, q3⟩ := meetP_iff.1 k2
            have := h2 m k1 (by simp [q1, q2]) fun d hd kd => by
              rw [Bool.and_eq_true] at kd
              exact q3 d hd kd.1 kd.2
            rw [← this, k2] at hp
            exact absurd hp (by simp)
  · have hrow := O.row i hi
    have va := O.val hi ha
    have vb := O.val hi hb
    cases xa : leB U i a with
    | false =>
      refine ⟨s, h.skip (by simp [xa]), fun K => Ev.succ ?_⟩
      rw [xa] at va
      simp only [spec_l1Meet.l0, rdL_nat, rd_nat, rd_row, hrow, va, vb]
      repeat (first | ((with_reducible refine Ev.ite_pos ?_ ?_); (first | assumption | (focus omega) | (focus (simp; done)))) | ((with_reducible refine Ev.ite_neg ?_ ?_); (first | assumption | (focus omega) | (focus (simp; done)))))
      exact K
    | true =>
      cases xb : leB U i b with
      | false =>
        refine ⟨s, h.skip (by simp [xb]), fun K => Ev.succ ?_⟩
        rw [xa] at va; rw [xb] at vb
        simp only [spec_l1Meet.l0, rdL_nat, rd_nat, rd_row, hrow, va, vb]
        repeat (first | ((with_reducible refine Ev.ite_pos ?_ ?_); (first | assumption | (focus omega) | (focus (simp; done)))) | ((with_reducible refine Ev.ite_neg ?_ ?_); (first | assumption | (focus omega) | (focus (simp; done)))))
        exact K
      | true =>
        rw [xa] at va; rw [xb] at vb
        by_cases hneg : s = -1
        · subst hneg
          refine ⟨(i : Int), h.first (by simp [xa, xb]), fun K => Ev.succ ?_⟩
          simp only [spec_l1Meet.l0, rdL_nat, rd_nat, rd_row, hrow, va, vb]
          repeat (first | ((with_reducible refine Ev.ite_pos ?_ ?_); (first | assumption | (focus omega) | (focus (simp; done)))) | ((with_reducible refine Ev.ite_neg ?_ ?_); (first | assumption | (focus omega) | (focus (simp; done)))))
          exact K
        · obtain ⟨c, rfl, hc⟩ : ∃ c : Nat, s = c ∧ c < i := by
            rcases h with ⟨h1, _⟩ | ⟨c, h1, h2, _⟩
            · exact absurd h1 hneg
            · exact ⟨c, h1, h2⟩
          have vc := O.val (show c < U.length by omega) hi
          have hrowc := O.row c (by omega)
          cases xc : leB U c i with
          | true =>
            refine ⟨(i : Int), h.up O.anti hi (by simp [xa, xb]) xc, fun K => Ev.succ ?_⟩
            rw [xc] at vc
            simp only [spec_l1Meet.l0, rdL_nat, rd_nat, rd_row, hrow, hrowc, va, vb, vc]
            repeat (first | ((with_reducible refine Ev.ite_pos ?_ ?_); (first | assumption | (focus omega) | (focus (simp; done)))) | ((with_reducible refine Ev.ite_neg ?_ ?_); (first | assumption | (focus omega) | (focus (simp; done)))))
            exact K
          | false =>
            refine ⟨(c : Int), h.stay hi xc, fun K => Ev.succ ?_⟩
            rw [xc] at vc
            simp only [spec_l1Meet.l0, rdL_nat, rd_nat, rd_row, hrow, hrowc, va, vb, vc]
            repeat (first | ((with_reducible refine Ev.ite_pos ?_ ?_); (first | assumption | (focus omega) | (focus (simp; done)))) | ((with_reducible refine Ev.ite_neg ?_ ?_); (first | assumption | (focus omega) | (focus (simp; done)))))
            exact K
theorem spec_l1Join.ev {a b : Nat} (ha : a < U.length) (hb : b < U.length) : Ev (fun k => spec_l1Join.f k U a b) (jI U a b) := by
  have hs := O.small
  have hra := O.row a ha
  have hrb := O.row b hb
  unfold spec_l1Join.f
  refine Ev.loop (g := fun k s i => spec_l1Join.l0 k U a b s i) U.length (Best U.length (fun i => leB U a i && leB U b i) (fun x y => leB U y x)) (by omega) (fun s h => ?_) (fun i s hi h => ?_) (-1) Best.zero
  · refine Ev.succ ?_
    simp only [spec_l1Join.l0]
    repeat (first | ((with_reducible refine Ev.ite_pos ?_ ?_); (first | assumption | (focus omega) | (focus (simp; done)))) | ((with_reducible refine Ev.ite_neg ?_ ?_); (first | assumption | (focus omega) | (focus (simp; done)))))
    rcases h with ⟨rfl, h⟩ | ⟨c, rfl, hc, h1, h2⟩
    · have e : joinO U a b = none := findN_none.2 fun i hi => by
        have : (leB U a i && leB U b i) = false := h i hi
        unfold joinP; rw [← Bool.and_assoc, this]; rfl
      unfold jI
      rw [e]
      refine Ev.eq (Ev.all (n := U.length) (g := fun k i => spec_l1Join.l1 k U a b (-1) i) (fun _ => true) (go := -1) (stop := -1) (by omega) (fun _ => ?_) fun i hi _ R hR => ?_) (by split <;> rfl)
      · refine Ev.succ ?_
        simp only [spec_l1Join.l1]
        repeat (first | ((with_reducible refine Ev.ite_pos ?_ ?_); (first | assumption | (focus omega) | (focus (simp; done)))) | ((with_reducible refine Ev.ite_neg ?_ ?_); (first | assumption | (focus omega) | (focus (simp; done)))))
        exact Ev.now _
      · refine Ev.succ ?_
        have va := O.val ha hi
        have vb := O.val hb hi
        have hab : (leB U a i && leB U b i) = false := h i hi
        simp only [spec_l1Join.l1, rdL_nat, rd_nat, rd_row, hra, hrb, va, vb]
        repeat (first | ((with_reducible refine Ev.ite_pos ?_ ?_); (first | assumption | (focus omega) | (focus (simp; done)))) | ((with_reducible refine Ev.ite_neg ?_ ?_); (first | assumption | (focus omega) | (focus (simp; done)))))
        cases xa : leB U a i with
        | false => repeat (first | ((with_reducible refine Ev.ite_pos ?_ ?_); (first | assumption | (focus omega) | (focus (simp; done)))) | ((with_reducible refine Ev.ite_neg ?_ ?_); (first | assumption | (focus omega) | (focus (simp; done)))))
                   exact hR rfl
        | true =>
          cases xb : leB U b i with
          | false => repeat (first | ((with_reducible refine Ev.ite_pos ?_ ?_); (first | assumption | (focus omega) | (focus (simp; done)))) | ((with_reducible refine Ev.ite_neg ?_ ?_); (first | assumption | (focus omega) | (focus (simp; done)))))
                     exact hR rfl
          | true => rw [xa, xb] at hab; exact absurd hab (by simp)
    · have hrc := O.row c hc
      replace h1 : (leB U a c && leB U b c) = true := h1
      refine Ev.eq (Ev.all (n := U.length) (g := fun k i => spec_l1Join.l1 k U a b c i) (fun d => !(leB U a d && leB U b d) || leB U c d) (go := (c : Int)) (stop := -1) (by omega) (fun _ => ?_) fun i hi _ R hR => ?_) ?_
      · refine Ev.succ ?_
        simp only [spec_l1Join.l1]
        repeat (first | ((with_reducible refine Ev.ite_pos ?_ ?_); (first | assumption | (focus omega) | (focus (simp; done)))) | ((with_reducible refine Ev.ite_neg ?_ ?_); (first | assumption | (focus omega) | (focus (simp; done)))))
        exact Ev.now _
      · refine Ev.succ ?_
        have va := O.val ha hi
        have vb := O.val hb hi
        have vc := O.val hc hi
        simp only [spec_l1Join.l1, rdL_nat, rd_nat, rd_row, hra, hrb, hrc, va, vb, vc]
        repeat (first | ((with_reducible refine Ev.ite_pos ?_ ?_); (first | assumption | (focus omega) | (focus (simp; done)))) | ((with_reducible refine Ev.ite_neg ?_ ?_); (first | assumption | (focus omega) | (focus (simp; done)))))
        cases xa : leB U a i with
        | false => repeat (first | ((with_reducible refine Ev.ite_pos ?_ ?_); (first | assumption | (focus omega) | (focus (simp; done)))) | ((with_reducible refine Ev.ite_neg ?_ ?_); (first | assumption | (focus omega) | (focus (simp; done)))))
                   exact hR (by simp [xa])
        | true =>
          repeat (first | ((with_reducible refine Ev.ite_pos ?_ ?_); (first | assumption | (focus omega) | (focus (simp; done)))) | ((with_reducible refine Ev.ite_neg ?_ ?_); (first | assumption | (focus omega) | (focus (simp; done)))))
          cases xb : leB U b i with
          | false => repeat (first | ((with_reducible refine Ev.ite_pos ?_ ?_); (first | assumption | (focus omega) | (focus (simp; done)))) | ((with_reducible refine Ev.ite_neg ?_ ?_); (first | assumption | (focus omega) | (focus (simp; done)))))
                     exact hR (by simp [xa, xb])
          | true =>
            repeat (first | ((with_reducible refine Ev.ite_pos ?_ ?_); (first | assumption | (focus omega) | (focus (simp; done)))) | ((with_reducible refine Ev.ite_neg ?_ ?_); (first | assumption | (focus omega) | (focus (simp; done)))))
            cases xc : leB U c i with
            | false => repeat (first | ((with_reducible refine Ev.ite_pos ?_ ?_); (first | assumption | (focus omega) | (focus (simp; done)))) | ((with_reducible refine Ev.ite_neg ?_ ?_); (first | assumption | (focus omega) | (focus (simp; done)))))
                       exact Ev.now _
            | true => repeat (first | ((with_reducible refine Ev.ite_pos ?_ ?_); (first | assumption | (focus omega) | (focus (simp; done)))) | ((with_reducible refine Ev.ite_neg ?_ ?_); (first | assumption | (focus omega) | (focus (simp; done)))))
                      exact hR (by simp [xc])
      · unfold jI
        have hP : joinP U a b c = allN U.length fun d => !(leB U a d && leB U b d) || leB U c d := by unfold joinP; rw [← Bool.and_assoc, h1]; rfl
        rw [← hP]
        cases hp : joinP U a b c with
        | true => rw [O.join_eq hc hp]; rfl
        | false =>
          cases e : joinO U a b with
          | none => rfl
          | some m =>
            obtain ⟨k1, k2⟩ := findN_some e
            obtain ⟨q1, q2, q3⟩ := joinP_iff.1 k2
            have := h2 m k1 (by simp [q1, q2]) fun d hd kd => by
              rw [Bool.and_eq_true] at kd
              exact q3 d hd kd.1 kd.2
            rw [← this, k2] at hp
            exact absurd hp (by simp)
  · have hrow := O.row i hi
    have va := O.val ha hi
    have vb := O.val hb hi
    cases xa : leB U a i with
    | false =>
      refine ⟨s, h.skip (by simp [xa]), fun K => Ev.succ ?_⟩
      rw [xa] at va
      simp only [spec_l1Join.l0, rdL_nat, rd_nat, rd_row, hra, hrb, va, vb]
      repeat (first | ((with_reducible refine Ev.ite_pos ?_ ?_); (first | assumption | (focus omega) | (focus (simp; done)))) | ((with_reducible refine Ev.ite_neg ?_ ?_); (first | assumption | (focus omega) | (focus (simp; done)))))
      exact K
    | true =>
      cases xb : leB U b i with
      | false =>
        refine ⟨s, h.skip (by simp [xb]), fun K => Ev.succ ?_⟩
        rw [xa] at va; rw [xb] at vb
        simp only [spec_l1Join.l0, rdL_nat, rd_nat, rd_row, hra, hrb, va, vb]
        repeat (first | ((with_reducible refine Ev.ite_pos ?_ ?_); (first | assumption | (focus omega) | (focus (simp; done)))) | ((with_reducible refine Ev.ite_neg ?_ ?_); (first | assumption | (focus omega) | (focus (simp; done)))))
        exact K
      | true =>
        rw [xa] at va; rw [xb] at vb
        by_cases hneg : s = -1
        · subst hneg
          refine ⟨(i : Int), h.first (by simp [xa, xb]), fun K => Ev.succ ?_⟩
          simp only [spec_l1Join.l0, rdL_nat, rd_nat, rd_row, hra, hrb, va, vb]
          repeat (first | ((with_reducible refine Ev.ite_pos ?_ ?_); (first | assumption | (focus omega) | (focus (simp; done)))) | ((with_reducible refine Ev.ite_neg ?_ ?_); (first | assumption | (focus omega) | (focus (simp; done)))))
          exact K
        · obtain ⟨c, rfl, hc⟩ : ∃ c : Nat, s = c ∧ c < i := by
            rcases h with ⟨h1, _⟩ | ⟨c, h1, h2, _⟩
            · exact absurd h1 hneg
            · exact ⟨c, h1, h2⟩
          have vc := O.val hi (show c < U.length by omega)
          cases xc : leB U i c with
          | true =>
            refine ⟨(i : Int), h.up (fun x y hx hy e1 e2 => O.anti x y hx hy e2 e1) hi (by simp [xa, xb]) xc, fun K => Ev.succ ?_⟩
            rw [xc] at vc
            simp only [spec_l1Join.l0, rdL_nat, rd_nat, rd_row, hrow, hra, hrb, va, vb, vc]
            repeat (first | ((with_reducible refine Ev.ite_pos ?_ ?_); (first | assumption | (focus omega) | (focus (simp; done)))) | ((with_reducible refine Ev.ite_neg ?_ ?_); (first | assumption | (focus omega) | (focus (simp; done)))))
            exact K
          | false =>
            refine ⟨(c : Int), h.stay hi xc, fun K => Ev.succ ?_⟩
            rw [xc] at vc
            simp only [spec_l1Join.l0, rdL_nat, rd_nat, rd_row, hrow, hra, hrb, va, vb, vc]
            repeat (first | ((with_reducible refine Ev.ite_pos ?_ ?_); (first | assumption | (focus omega) | (focus (simp; done)))) | ((with_reducible refine Ev.ite_neg ?_ ?_); (first | assumption | (focus omega) | (focus (simp; done)))))
            exact K
end
end Go.Proofs.Ytjoadckkdophnaa.Print
end
section
namespace Go.Proofs.Ytjoadckkdophnaa.Print
open Go.RowKit Go.Proofs.YtjoadckkdophnaaW.PrintWords Go.Proofs.YtjoadckkdophnaaW.PrintLast Go.Proofs.YtjoadckkdophnaaW.PrintMore
set_option linter.unusedVariables false
set_option linter.unusedSimpArgs false
open Oml
def In (U : List (List Int)) (a : Int) : Prop := 0 ≤ a ∧ a < (U.length : Int)
def andI (U : List (List Int)) (a b : Int) : Int := mI U a.toNat b.toNat
def orI (U : List (List Int)) (a b : Int) : Int := jI U a.toNat b.toNat
def notI (N : List Int) (a : Int) : Int := at1 N a.toNat
def leI (U : List (List Int)) (a b : Int) : Bool := leB U a.toNat b.toNat
def noI (U : List (List Int)) : Int := optI (leastO U)
def yesI (U : List (List Int)) (N : List Int) : Int := notI N (noI U)
section
variable {U : List (List Int)} {N : List Int} (L : Logic U N)
include L
theorem _root_.Oml.Logic.in_and {a b : Int} (ha : In U a) (hb : In U b) : In U (andI U a b) := by
  obtain ⟨m, hm⟩ := Option.isSome_iff_exists.1 (L.meets a.toNat b.toNat (by have := ha.1; have := ha.2; omega) (by have := hb.1; have := hb.2; omega))
  have := (findN_some hm).1
  unfold In andI mI; rw [hm]; simp only [optI]; omega
theorem _root_.Oml.Logic.in_or {a b : Int} (ha : In U a) (hb : In U b) : In U (orI U a b) := by
  obtain ⟨m, hm⟩ := Option.isSome_iff_exists.1 (L.joins a.toNat b.toNat (by have := ha.1; have := ha.2; omega) (by have := hb.1; have := hb.2; omega))
  have := (findN_some hm).1
  unfold In orI jI; rw [hm]; simp only [optI]; omega
theorem _root_.Oml.Logic.le_val {a b : Int} (ha : In U a) (hb : In U b) : at2 U a.toNat b.toNat = if leI U a b = true then 1 else 0 :=
  L.toOrder.val (by have := ha.1; have := ha.2; omega) (by have := hb.1; have := hb.2; omega)
end
structure Adr where
  aU : Addr
  aA : Addr
  aO : Addr
  aN : Addr
  cU : Nat
  cA : Nat
  cO : Nat
  cN : Nat
  rU : Nat → Addr
  rA : Nat → Addr
  rO : Nat → Addr
  qU : Nat → Nat
  qA : Nat → Nat
  qO : Nat → Nat
structure View (W : World) (g : Nat) (U : List (List Int)) (N : List Int) (v : Adr) : Prop where
  blk : W.heap[g]? = some (.cells #[.slice (some v.aU) U.length v.cU, .slice (some v.aA) U.length v.cA, .slice (some v.aO) U.length v.cO, .slice (some v.aN) U.length v.cN, .int .i64 (noI U), .int .i64 (yesI U N)] 57 (0, 0))
  len : N.length = U.length
  u : ∀ a, In U a → W.cell? (v.aU.add a.toNat) = some (.slice (some (v.rU a.toNat)) U.length (v.qU a.toNat))
  u2 : ∀ a b, In U a → In U b → W.cell? ((v.rU a.toNat).add b.toNat) = some (.int .i64 (at2 U a.toNat b.toNat))
  m : ∀ a, In U a → W.cell? (v.aA.add a.toNat) = some (.slice (some (v.rA a.toNat)) U.length (v.qA a.toNat))
  m2 : ∀ a b, In U a → In U b → W.cell? ((v.rA a.toNat).add b.toNat) = some (.int .i64 (andI U a b))
  j : ∀ a, In U a → W.cell? (v.aO.add a.toNat) = some (.slice (some (v.rO a.toNat)) U.length (v.qO a.toNat))
  j2 : ∀ a b, In U a → In U b → W.cell? ((v.rO a.toNat).add b.toNat) = some (.int .i64 (orI U a b))
  n : ∀ a, In U a → W.cell? (v.aN.add a.toNat) = some (.int .i64 (notI N a))
  capU : U.length ≤ v.cU
  capR : ∀ a, In U a → U.length ≤ v.qU a.toNat
namespace View
section
variable {W W1 : World} {g : Nat} {U : List (List Int)} {N : List Int} {v : Adr} (h : View W g U N v)
include h
theorem below (hb : Below W.heap.size W W1) : View W1 g U N v where
  blk := blk_below h.blk hb
  len := h.len
  u := fun a ha => cell_up (h.u a ha) hb rfl
  u2 := fun a b ha hb' => cell_up (h.u2 a b ha hb') hb rfl
  m := fun a ha => cell_up (h.m a ha) hb rfl
  m2 := fun a b ha hb' => cell_up (h.m2 a b ha hb') hb rfl
  j := fun a ha => cell_up (h.j a ha) hb rfl
  j2 := fun a b ha hb' => cell_up (h.j2 a b ha hb') hb rfl
  n := fun a ha => cell_up (h.n a ha) hb rfl
  capU := h.capU
  capR := h.capR
theorem f0 : W.cell? ⟨g, 0, none⟩ = some (.slice (some v.aU) U.length v.cU) := (blk_cell h.blk 0).trans rfl
theorem f1 : W.cell? ⟨g, 1, none⟩ = some (.slice (some v.aA) U.length v.cA) := (blk_cell h.blk 1).trans rfl
theorem f2 : W.cell? ⟨g, 2, none⟩ = some (.slice (some v.aO) U.length v.cO) := (blk_cell h.blk 2).trans rfl
theorem f3 : W.cell? ⟨g, 3, none⟩ = some (.slice (some v.aN) U.length v.cN) := (blk_cell h.blk 3).trans rfl
theorem drewN (n : Nat) : View (W.drewN n) g U N v := h.below (pw_below_drewN (Below.refl _ _) n)
theorem alloc (o : Obj) : View (W.alloc o) g U N v := h.below (below_alloc (Below.refl _ _) o)
end
end View
theorem rows_adr {W : World} {A : Option Addr} {n m : Nat} {xs : List (List Int)} (h : Kd.C (Kd.slice 3 (Kd.int .i64)) W A m xs) (hm : m = n) (hn : 0 < n) (hr : ∀ a, a < n → (xs.getD a []).length = n) :
    ∃ (ad : Addr) (r : Nat → Addr) (q : Nat → Nat), A = some ad ∧ (∀ a, a < n → W.cell? (ad.add a) = some (.slice (some (r a)) n (q a))) ∧ (∀ a b, a < n → b < n → W.cell? ((r a).add b) = some (.int .i64 (at2 xs a b))) ∧ ∀ a, a < n → n ≤ q a := by
  subst hm
  obtain ⟨ad, _, _, e, _⟩ := mat_cell h hr 0 0 (by omega) (by omega) (by omega) (by omega)
  have key : ∀ a : Nat, ∃ (r : Addr) (q : Nat), a < m → W.cell? (ad.add a) = some (.slice (some r) m q) ∧ (∀ b, b < m → W.cell? (r.add b) = some (.int .i64 (at2 xs a b))) ∧ m ≤ q := by
    intro a
    by_cases ha : a < m
    · obtain ⟨ad1, Ar, cr, e1, hc, hl, hk⟩ := rows_cell h a (by omega) (by omega)
      rw [e] at e1
      injection e1 with e1
      subst e1
      simp only [Int.toNat_natCast] at hc hl hk
      rw [hr a ha] at hc hl hk
      obtain ⟨r, e2, _⟩ := ints_cell hk 0 (by omega) (by omega)
      subst e2
      refine ⟨r, cr, fun _ => ⟨hc, fun b hb => ?_, hl⟩⟩
      obtain ⟨r', e3, hc3⟩ := ints_cell hk b (by omega) (by omega)
      cases e3
      simpa [at2, at1] using hc3
    · exact ⟨ad, 0, fun h => absurd h ha⟩
  refine ⟨ad, fun a => Classical.choose (key a), fun a => Classical.choose (Classical.choose_spec (key a)), e, fun a ha => ?_, fun a b ha hb => ?_, fun a ha => ?_⟩
  · exact (Classical.choose_spec (Classical.choose_spec (key a)) ha).1
  · exact (Classical.choose_spec (Classical.choose_spec (key a)) ha).2.1 b hb
  · exact (Classical.choose_spec (Classical.choose_spec (key a)) ha).2.2
theorem view_of {W : World} {g : Nat} {U : List (List Int)} {N : List Int} (L : Logic U N) (h : AlgOf W g U N) : ∃ v, View W g U N v := by
  obtain ⟨A0, c0, A1, c1, A2, c2, A3, c3, h1, hc, k0, k1, k2, k3⟩ := h
  have hn : 0 < U.length := L.pos
  rw [tabI_length] at h1 hc k1 k2
  rw [tabI_length, L.len] at h1
  rw [tabI_length, L.len] at hc
  rw [L.len] at k3
  obtain ⟨aU, rU, qU, eU, u1, u2, u3⟩ := rows_adr k0 rfl hn L.row
  obtain ⟨aA, rA, qA, eA, m1, m2, m3⟩ := rows_adr k1 rfl hn (tabI_row _ _)
  obtain ⟨aO, rO, qO, eO, j1, j2, j3⟩ := rows_adr k2 rfl hn (tabI_row _ _)
  obtain ⟨aN, eN, _⟩ := ints_cell k3 0 (by omega) (by omega)
  subst eU eA eO eN
  have nat : ∀ a, In U a → a.toNat < U.length := fun a ha => by have := ha.1; have := ha.2; omega
  refine ⟨⟨aU, aA, aO, aN, c0, c1, c2, c3, rU, rA, rO, qU, qA, qO⟩, { blk := h1, len := L.len, u := fun a ha => u1 _ (nat a ha), u2 := fun a b ha hb => u2 _ _ (nat a ha) (nat b hb), m := fun a ha => m1 _ (nat a ha), m2 := fun a b ha hb => ?_, j := fun a ha => j1 _ (nat a ha), j2 := fun a b ha hb => ?_, n := fun a ha => ?_, capU := hc.1, capR := fun a ha => u3 _ (nat a ha) }⟩
  · rw [m2 _ _ (nat a ha) (nat b hb), tabI_at _ _ _ _ (nat a ha) (nat b hb)]; rfl
  · rw [j2 _ _ (nat a ha) (nat b hb), tabI_at _ _ _ _ (nat a ha) (nat b hb)]; rfl
  · obtain ⟨ad, e, hcell⟩ := ints_cell k3 a ha.1 ha.2
    cases e
    exact hcell
theorem told_y (k : Nat) (A0 : Option Addr) (c0 : Nat) (U : List (List Int)) (A1 : Option Addr) (c1 : Nat) (N : List Int) (w : World)
    (hr0 : Kd.C (Kd.slice 3 (Kd.int .i64)) w A0 U.length U) (hc0 : U.length ≤ c0) (hr1 : Kd.C (Kd.int .i64) w A1 N.length N) (hc1 : N.length ≤ c1) (hF : ToldFacts k U) (hL : logicB U N = true) :
    Calls Try.prog 55 #[.agg #[.slice A0 U.length c0, .slice A1 N.length c1]] w fun e w' => ∃ g v, e = .returned (.pointer (some ⟨g, 0, none⟩)) ∧ View w' g U N v ∧ w.heap.size ≤ g ∧ Below w.heap.size w w' := by
  refine (told_calls k A0 c0 U A1 c1 N w hr0 hc0 hr1 hc1 hF).mono fun e w' h => ?_
  obtain ⟨hb, h | h⟩ := h
  · obtain ⟨_, g, he, hg, ha⟩ := h
    obtain ⟨v, hv⟩ := view_of (logicB_iff.1 hL) ha
    exact ⟨g, v, he, hv, hg, hb⟩
  · rw [hL] at h; exact absurd h.1 (by simp)
theorem told_n (k : Nat) (A0 : Option Addr) (c0 : Nat) (U : List (List Int)) (A1 : Option Addr) (c1 : Nat) (N : List Int) (w : World)
    (hr0 : Kd.C (Kd.slice 3 (Kd.int .i64)) w A0 U.length U) (hc0 : U.length ≤ c0) (hr1 : Kd.C (Kd.int .i64) w A1 N.length N) (hc1 : N.length ≤ c1) (hF : ToldFacts k U) (hL : logicB U N = false) :
    Calls Try.prog 55 #[.agg #[.slice A0 U.length c0, .slice A1 N.length c1]] w fun e w' => e = .returned (.pointer none) ∧ Below w.heap.size w w' := by
  refine (told_calls k A0 c0 U A1 c1 N w hr0 hc0 hr1 hc1 hF).mono fun e w' h => ?_
  obtain ⟨hb, h | h⟩ := h
  · rw [hL] at h; exact absurd h.1 (by simp)
  · exact ⟨h.2, hb⟩
end Go.Proofs.Ytjoadckkdophnaa.Print
end
section
namespace Go.Proofs.Ytjoadckkdophnaa.Print
open Go.RowKit Go.Proofs.YtjoadckkdophnaaW.PrintWords Go.Proofs.YtjoadckkdophnaaW.PrintLast Go.Proofs.YtjoadckkdophnaaW.PrintMore
set_option linter.unusedVariables false
set_option linter.unusedSimpArgs false
open Oml
theorem l1In_eq (a b c : Int) : spec_l1In.f a b c = some (decide (b ≤ a) && decide (a ≤ c)) := by
  unfold spec_l1In.f
  by_cases h : a ≥ b
  · rw [if_pos h]; simp [h]
  · rw [if_neg h]; simp [h]
def rowS (U : List (List Int)) (i : Nat) : Bool := (U.getD i []).length == U.length && allN U.length fun j => at2 U i j == 0 || at2 U i j == 1
def relS (U : List (List Int)) (i : Nat) : Bool := allN U.length fun j => !(if i = j then !leB U i j else leB U i j && leB U j i) && allN U.length fun c => !(leB U i j && leB U j c) || leB U i c
theorem orderB_spec (U : List (List Int)) : orderB U = (decide (1 ≤ U.length) && (decide (U.length ≤ 12) && (allN U.length (rowS U) && allN U.length (relS U)))) := by
  rw [Bool.eq_iff_iff, orderB_iff]
  unfold rowS relS
  simp only [Bool.and_eq_true, decide_eq_true_eq, allN_iff, Bool.or_eq_true, beq_iff_eq, Bool.not_eq_true']
  constructor
  · intro O
    refine ⟨O.pos, O.small, fun i hi => ⟨O.row i hi, fun j hj => O.bit i j hi hj⟩, fun i hi j hj => ⟨?_, fun c hc => ?_⟩⟩
    · by_cases e : i = j
      · rw [if_pos e, ← e, O.refl i hi]; rfl
      · rw [if_neg e]
        cases k1 : leB U i j
        · rfl
        · cases k2 : leB U j i
          · rfl
          · exact absurd (O.anti i j hi hj k1 k2) e
    · cases k1 : leB U i j
      · simp
      · cases k2 : leB U j c
        · simp
        · exact .inr (O.trans i j c hi hj hc k1 k2)
  · rintro ⟨h1, h2, h3, h4⟩
    refine ⟨h1, h2, fun a ha => (h3 a ha).1, fun a b ha hb => (h3 a ha).2 b hb, fun a ha => ?_, fun a b ha hb k1 k2 => ?_, fun a b c ha hb hc k1 k2 => ?_⟩
    · have := (h4 a ha a ha).1
      rw [if_pos rfl] at this
      simpa using this
    · by_cases e : a = b
      · exact e
      · have := (h4 a ha b hb).1
        rw [if_neg e, k1, k2] at this
        exact absurd this (by simp)
    · rcases (h4 a ha b hb).2 c hc with e | e
      · rw [k1, k2] at e; exact absurd e (by simp)
      · exact e
theorem spec_OrderOk.ev (U : List (List Int)) : Ev (fun k => spec_OrderOk.f k U) (orderB U) := by
  rw [orderB_spec]
  unfold spec_OrderOk.f
  refine Ev.pbind (l1In_eq _ _ _) ?_
  by_cases h1 : 1 ≤ U.length
  · by_cases h2 : U.length ≤ 12
    · rw [show (decide ((1 : Int) ≤ U.length) && decide ((U.length : Int) ≤ 12)) = true by simp; omega]
      simp only [h1, h2, decide_true, Bool.true_and]
      repeat (first | ((with_reducible refine Ev.ite_pos ?_ ?_); (first | assumption | (focus omega) | (focus (simp; done)))) | ((with_reducible refine Ev.ite_neg ?_ ?_); (first | assumption | (focus omega) | (focus (simp; done)))))
      refine Ev.eq (Ev.all (n := U.length) (g := fun k i => spec_OrderOk.l0 k U U.length i) (rowS U) (go := allN U.length (relS U)) (stop := false) (by omega) (fun hr => ?_) fun i hi _ R hR => ?_) (by cases allN U.length (rowS U) <;> rfl)
      · have row : ∀ i, i < U.length → (U.getD i []).length = U.length := fun i hi => by
          have := hr i hi
          unfold rowS at this
          simp only [Bool.and_eq_true, beq_iff_eq] at this
          exact this.1
        have bit : ∀ i j, i < U.length → j < U.length → at2 U i j = if leB U i j = true then 1 else 0 := fun i j hi hj => by
          have := hr i hi
          unfold rowS at this
          simp only [Bool.and_eq_true, beq_iff_eq, allN_iff, Bool.or_eq_true] at this
          unfold leB
          rcases this.2 j hj with e | e <;> simp [e]
        refine Ev.succ ?_
        simp only [spec_OrderOk.l0]
        repeat (first | ((with_reducible refine Ev.ite_pos ?_ ?_); (first | assumption | (focus omega) | (focus (simp; done)))) | ((with_reducible refine Ev.ite_neg ?_ ?_); (first | assumption | (focus omega) | (focus (simp; done)))))
        refine Ev.eq (Ev.all (n := U.length) (g := fun k i => spec_OrderOk.l2 k U U.length i) (relS U) (go := true) (stop := false) (by omega) (fun _ => ?_) fun a ha _ R hR => ?_) (by cases allN U.length _ <;> rfl)
        · refine Ev.succ ?_
          simp only [spec_OrderOk.l2]
          repeat (first | ((with_reducible refine Ev.ite_pos ?_ ?_); (first | assumption | (focus omega) | (focus (simp; done)))) | ((with_reducible refine Ev.ite_neg ?_ ?_); (first | assumption | (focus omega) | (focus (simp; done)))))
          exact Ev.now _
        · refine Ev.succ ?_
          simp only [spec_OrderOk.l2]
          repeat (first | ((with_reducible refine Ev.ite_pos ?_ ?_); (first | assumption | (focus omega) | (focus (simp; done)))) | ((with_reducible refine Ev.ite_neg ?_ ?_); (first | assumption | (focus omega) | (focus (simp; done)))))
          refine Ev.all (n := U.length) (g := fun k i => spec_OrderOk.l3 k U U.length a i) _ (by omega) (fun h => ?_) fun b hb _ R2 hR2 => ?_
          · refine Ev.succ ?_
            simp only [spec_OrderOk.l3]
            repeat (first | ((with_reducible refine Ev.ite_pos ?_ ?_); (first | assumption | (focus omega) | (focus (simp; done)))) | ((with_reducible refine Ev.ite_neg ?_ ?_); (first | assumption | (focus omega) | (focus (simp; done)))))
            exact hR (allN_iff.2 h)
          · have vab := bit a b ha hb
            have vba := bit b a hb ha
            have j4 : Ev (fun k => spec_OrderOk.j4 k U U.length a b (if a = b then !leB U a b else leB U a b && leB U b a)) (if (!(if a = b then !leB U a b else leB U a b && leB U b a) && allN U.length fun c => !(leB U a b && leB U b c) || leB U a c) = true then R2 else false) := by
              refine Ev.succ ?_
              simp only [spec_OrderOk.j4]
              cases hx : (if a = b then !leB U a b else leB U a b && leB U b a) with
              | true => repeat (first | ((with_reducible refine Ev.ite_pos ?_ ?_); (first | assumption | (focus omega) | (focus (simp; done)))) | ((with_reducible refine Ev.ite_neg ?_ ?_); (first | assumption | (focus omega) | (focus (simp; done)))))
                        exact Ev.now _
              | false =>
                rw [hx, Bool.not_false, Bool.true_and] at hR2
                rw [Bool.not_false, Bool.true_and]
                repeat (first | ((with_reducible refine Ev.ite_pos ?_ ?_); (first | assumption | (focus omega) | (focus (simp; done)))) | ((with_reducible refine Ev.ite_neg ?_ ?_); (first | assumption | (focus omega) | (focus (simp; done)))))
                refine Ev.all (n := U.length) (g := fun k i => spec_OrderOk.l4 k U U.length a b i) _ (by omega) (fun h => ?_) fun c hc _ R3 hR3 => ?_
                · refine Ev.succ ?_
                  simp only [spec_OrderOk.l4]
                  repeat (first | ((with_reducible refine Ev.ite_pos ?_ ?_); (first | assumption | (focus omega) | (focus (simp; done)))) | ((with_reducible refine Ev.ite_neg ?_ ?_); (first | assumption | (focus omega) | (focus (simp; done)))))
                  exact hR2 (allN_iff.2 h)
                · refine Ev.succ ?_
                  have vbc := bit b c hb hc
                  have vac := bit a c ha hc
                  have ra := row a ha
                  have rb := row b hb
                  simp only [spec_OrderOk.l4, rdL_nat, rd_nat, rd_row, ra, rb, vab, vbc, vac]
                  repeat (first | ((with_reducible refine Ev.ite_pos ?_ ?_); (first | assumption | (focus omega) | (focus (simp; done)))) | ((with_reducible refine Ev.ite_neg ?_ ?_); (first | assumption | (focus omega) | (focus (simp; done)))))
                  cases f1 : leB U a b with
                  | false => repeat (first | ((with_reducible refine Ev.ite_pos ?_ ?_); (first | assumption | (focus omega) | (focus (simp; done)))) | ((with_reducible refine Ev.ite_neg ?_ ?_); (first | assumption | (focus omega) | (focus (simp; done)))))
                             exact hR3 (by simp [f1])
                  | true =>
                    repeat (first | ((with_reducible refine Ev.ite_pos ?_ ?_); (first | assumption | (focus omega) | (focus (simp; done)))) | ((with_reducible refine Ev.ite_neg ?_ ?_); (first | assumption | (focus omega) | (focus (simp; done)))))
                    cases f2 : leB U b c with
                    | false => repeat (first | ((with_reducible refine Ev.ite_pos ?_ ?_); (first | assumption | (focus omega) | (focus (simp; done)))) | ((with_reducible refine Ev.ite_neg ?_ ?_); (first | assumption | (focus omega) | (focus (simp; done)))))
                               exact hR3 (by simp [f2])
                    | true =>
                      repeat (first | ((with_reducible refine Ev.ite_pos ?_ ?_); (first | assumption | (focus omega) | (focus (simp; done)))) | ((with_reducible refine Ev.ite_neg ?_ ?_); (first | assumption | (focus omega) | (focus (simp; done)))))
                      cases f3 : leB U a c with
                      | false => repeat (first | ((with_reducible refine Ev.ite_pos ?_ ?_); (first | assumption | (focus omega) | (focus (simp; done)))) | ((with_reducible refine Ev.ite_neg ?_ ?_); (first | assumption | (focus omega) | (focus (simp; done)))))
                                 exact Ev.now _
                      | true => repeat (first | ((with_reducible refine Ev.ite_pos ?_ ?_); (first | assumption | (focus omega) | (focus (simp; done)))) | ((with_reducible refine Ev.ite_neg ?_ ?_); (first | assumption | (focus omega) | (focus (simp; done)))))
                                exact hR3 (by simp [f3])
            refine Ev.succ ?_
            have ra := row a ha
            have rb := row b hb
            simp only [spec_OrderOk.l3, rdL_nat, rd_nat, rd_row, ra, rb, vab, vba]
            repeat (first | ((with_reducible refine Ev.ite_pos ?_ ?_); (first | assumption | (focus omega) | (focus (simp; done)))) | ((with_reducible refine Ev.ite_neg ?_ ?_); (first | assumption | (focus omega) | (focus (simp; done)))))
            by_cases e : a = b
            · rw [if_pos e] at j4 ⊢
              repeat (first | ((with_reducible refine Ev.ite_pos ?_ ?_); (first | assumption | (focus omega) | (focus (simp; done)))) | ((with_reducible refine Ev.ite_neg ?_ ?_); (first | assumption | (focus omega) | (focus (simp; done)))))
              cases f1 : leB U a b with
              | false => rw [f1] at j4
                         repeat (first | ((with_reducible refine Ev.ite_pos ?_ ?_); (first | assumption | (focus omega) | (focus (simp; done)))) | ((with_reducible refine Ev.ite_neg ?_ ?_); (first | assumption | (focus omega) | (focus (simp; done)))))
                         exact j4
              | true => rw [f1] at j4
                        repeat (first | ((with_reducible refine Ev.ite_pos ?_ ?_); (first | assumption | (focus omega) | (focus (simp; done)))) | ((with_reducible refine Ev.ite_neg ?_ ?_); (first | assumption | (focus omega) | (focus (simp; done)))))
                        exact j4
            · rw [if_neg e] at j4 ⊢
              repeat (first | ((with_reducible refine Ev.ite_pos ?_ ?_); (first | assumption | (focus omega) | (focus (simp; done)))) | ((with_reducible refine Ev.ite_neg ?_ ?_); (first | assumption | (focus omega) | (focus (simp; done)))))
              cases f1 : leB U a b with
              | false => rw [f1] at j4
                         repeat (first | ((with_reducible refine Ev.ite_pos ?_ ?_); (first | assumption | (focus omega) | (focus (simp; done)))) | ((with_reducible refine Ev.ite_neg ?_ ?_); (first | assumption | (focus omega) | (focus (simp; done)))))
                         exact j4
              | true =>
                rw [f1] at j4
                repeat (first | ((with_reducible refine Ev.ite_pos ?_ ?_); (first | assumption | (focus omega) | (focus (simp; done)))) | ((with_reducible refine Ev.ite_neg ?_ ?_); (first | assumption | (focus omega) | (focus (simp; done)))))
                rw [show ((if leB U b a = true then (1 : Int) else 0) == 1) = leB U b a by cases leB U b a <;> rfl]
                exact j4
      · refine Ev.succ ?_
        simp only [spec_OrderOk.l0, rdL_nat]
        repeat (first | ((with_reducible refine Ev.ite_pos ?_ ?_); (first | assumption | (focus omega) | (focus (simp; done)))) | ((with_reducible refine Ev.ite_neg ?_ ?_); (first | assumption | (focus omega) | (focus (simp; done)))))
        by_cases e1 : (U.getD i []).length = U.length
        · repeat (first | ((with_reducible refine Ev.ite_pos ?_ ?_); (first | assumption | (focus omega) | (focus (simp; done)))) | ((with_reducible refine Ev.ite_neg ?_ ?_); (first | assumption | (focus omega) | (focus (simp; done)))))
          refine Ev.eq (Ev.all (n := U.length) (g := fun k j => spec_OrderOk.l1 k U U.length i j) (fun j => at2 U i j == 0 || at2 U i j == 1) (go := R) (stop := false) (by omega) (fun h => ?_) fun j hj _ R2 hR2 => ?_) (by unfold rowS; simp [-List.getD_eq_getElem?_getD, e1])
          · refine Ev.succ ?_
            simp only [spec_OrderOk.l1]
            repeat (first | ((with_reducible refine Ev.ite_pos ?_ ?_); (first | assumption | (focus omega) | (focus (simp; done)))) | ((with_reducible refine Ev.ite_neg ?_ ?_); (first | assumption | (focus omega) | (focus (simp; done)))))
            exact hR (by unfold rowS; simp only [e1, BEq.rfl, Bool.true_and]; exact allN_iff.2 h)
          · refine Ev.succ ?_
            simp only [spec_OrderOk.l1, rdL_nat, rd_nat, rd_row, l1In_eq]
            repeat (first | ((with_reducible refine Ev.ite_pos ?_ ?_); (first | assumption | (focus omega) | (focus (simp; done)))) | ((with_reducible refine Ev.ite_neg ?_ ?_); (first | assumption | (focus omega) | (focus (simp; done)))))
            refine Ev.pbind rfl ?_
            have e : (decide (0 ≤ at2 U i j) && decide (at2 U i j ≤ 1)) = (at2 U i j == 0 || at2 U i j == 1) := by
              rw [Bool.eq_iff_iff]; simp only [Bool.and_eq_true, decide_eq_true_eq, Bool.or_eq_true, beq_iff_eq]; omega
            rw [e]
            cases hb : (at2 U i j == 0 || at2 U i j == 1) with
            | true => repeat (first | ((with_reducible refine Ev.ite_pos ?_ ?_); (first | assumption | (focus omega) | (focus (simp; done)))) | ((with_reducible refine Ev.ite_neg ?_ ?_); (first | assumption | (focus omega) | (focus (simp; done)))))
                      exact hR2 hb
            | false => repeat (first | ((with_reducible refine Ev.ite_pos ?_ ?_); (first | assumption | (focus omega) | (focus (simp; done)))) | ((with_reducible refine Ev.ite_neg ?_ ?_); (first | assumption | (focus omega) | (focus (simp; done)))))
                       exact Ev.now _
        · repeat (first | ((with_reducible refine Ev.ite_pos ?_ ?_); (first | assumption | (focus omega) | (focus (simp; done)))) | ((with_reducible refine Ev.ite_neg ?_ ?_); (first | assumption | (focus omega) | (focus (simp; done)))))
          exact Ev.eq (Ev.now _) (by unfold rowS; simp [-List.getD_eq_getElem?_getD, e1])
    · rw [show (decide ((1 : Int) ≤ U.length) && decide ((U.length : Int) ≤ 12)) = false by simp; omega]
      simp only [h1, h2, decide_true, decide_false, Bool.true_and, Bool.false_and]
      repeat (first | ((with_reducible refine Ev.ite_pos ?_ ?_); (first | assumption | (focus omega) | (focus (simp; done)))) | ((with_reducible refine Ev.ite_neg ?_ ?_); (first | assumption | (focus omega) | (focus (simp; done)))))
      exact Ev.now _
  · rw [show (decide ((1 : Int) ≤ U.length) && decide ((U.length : Int) ≤ 12)) = false by simp; omega]
    simp only [h1, decide_false, Bool.false_and]
    repeat (first | ((with_reducible refine Ev.ite_pos ?_ ?_); (first | assumption | (focus omega) | (focus (simp; done)))) | ((with_reducible refine Ev.ite_neg ?_ ?_); (first | assumption | (focus omega) | (focus (simp; done)))))
    exact Ev.now _
theorem meetO_comm (U : List (List Int)) (a b : Nat) : meetO U a b = meetO U b a := by
  unfold meetO
  refine findN_congr fun c _ => ?_
  rw [Bool.eq_iff_iff, meetP_iff, meetP_iff]
  constructor <;> rintro ⟨h1, h2, h3⟩ <;> exact ⟨h2, h1, fun d hd k1 k2 => h3 d hd k2 k1⟩
theorem joinO_comm (U : List (List Int)) (a b : Nat) : joinO U a b = joinO U b a := by
  unfold joinO
  refine findN_congr fun c _ => ?_
  rw [Bool.eq_iff_iff, joinP_iff, joinP_iff]
  constructor <;> rintro ⟨h1, h2, h3⟩ <;> exact ⟨h2, h1, fun d hd k1 k2 => h3 d hd k2 k1⟩
theorem lattice_half {U : List (List Int)} (O : Order U) : (allN U.length fun a => allN U.length fun b => (meetO U a b).isSome && (joinO U a b).isSome) = allN U.length fun a => allN a fun b => (meetO U a b).isSome && (joinO U a b).isSome := by
  rw [Bool.eq_iff_iff]
  simp only [allN_iff]
  constructor
  · intro h a ha b hb
    exact h a ha b (by omega)
  · intro h a ha b hb
    rcases Nat.lt_trichotomy b a with hlt | rfl | hlt
    · exact h a ha b hlt
    · rw [O.meet_eq (a := b) (b := b) hb (meetP_iff.2 ⟨O.refl b hb, O.refl b hb, fun d _ h _ => h⟩), O.join_eq (a := b) (b := b) hb (joinP_iff.2 ⟨O.refl b hb, O.refl b hb, fun d _ h _ => h⟩)]
      rfl
    · rw [meetO_comm, joinO_comm]
      exact h b hb a hlt
theorem spec_LatticeOk.ev (U : List (List Int)) : Ev (fun k => spec_LatticeOk.f k U) (latticeB U) := by
  unfold spec_LatticeOk.f latticeB
  have ho := spec_OrderOk.ev U
  cases hb : orderB U with
  | false =>
    rw [hb] at ho
    have fin : Ev (fun k => spec_LatticeOk.j1 k U 0 false) false := by
      refine Ev.succ ?_
      simp only [spec_LatticeOk.j1]
      repeat (first | ((with_reducible refine Ev.ite_pos ?_ ?_); (first | assumption | (focus omega) | (focus (simp; done)))) | ((with_reducible refine Ev.ite_neg ?_ ?_); (first | assumption | (focus omega) | (focus (simp; done)))))
      exact Ev.bind ho (Ev.now _)
    refine Ev.succ ?_
    simp only [spec_LatticeOk.l0]
    by_cases h0 : (0 : Int) < (U.length : Int)
    · repeat (first | ((with_reducible refine Ev.ite_pos ?_ ?_); (first | assumption | (focus omega) | (focus (simp; done)))) | ((with_reducible refine Ev.ite_neg ?_ ?_); (first | assumption | (focus omega) | (focus (simp; done)))))
      exact Ev.bind ho fin
    · repeat (first | ((with_reducible refine Ev.ite_pos ?_ ?_); (first | assumption | (focus omega) | (focus (simp; done)))) | ((with_reducible refine Ev.ite_neg ?_ ?_); (first | assumption | (focus omega) | (focus (simp; done)))))
      exact fin
  | true =>
    rw [hb] at ho
    have O := orderB_iff.1 hb
    have hs := O.small
    refine Ev.eq (Ev.all (n := U.length) (g := fun k i => spec_LatticeOk.l0 k U i) (fun a => allN a fun b => (meetO U a b).isSome && (joinO U a b).isSome) (go := true) (stop := false) (by omega) (fun _ => ?_) fun a ha _ R hR => ?_) (by rw [Bool.true_and, lattice_half O]; cases allN U.length _ <;> rfl)
    · refine Ev.succ ?_
      simp only [spec_LatticeOk.l0]
      repeat (first | ((with_reducible refine Ev.ite_pos ?_ ?_); (first | assumption | (focus omega) | (focus (simp; done)))) | ((with_reducible refine Ev.ite_neg ?_ ?_); (first | assumption | (focus omega) | (focus (simp; done)))))
      refine Ev.succ ?_
      simp only [spec_LatticeOk.j1]
      repeat (first | ((with_reducible refine Ev.ite_pos ?_ ?_); (first | assumption | (focus omega) | (focus (simp; done)))) | ((with_reducible refine Ev.ite_neg ?_ ?_); (first | assumption | (focus omega) | (focus (simp; done)))))
      exact Ev.bind ho (Ev.now _)
    · refine Ev.succ ?_
      simp only [spec_LatticeOk.l0]
      repeat (first | ((with_reducible refine Ev.ite_pos ?_ ?_); (first | assumption | (focus omega) | (focus (simp; done)))) | ((with_reducible refine Ev.ite_neg ?_ ?_); (first | assumption | (focus omega) | (focus (simp; done)))))
      refine Ev.bind ho ?_
      refine Ev.succ ?_
      simp only [spec_LatticeOk.j1]
      repeat (first | ((with_reducible refine Ev.ite_pos ?_ ?_); (first | assumption | (focus omega) | (focus (simp; done)))) | ((with_reducible refine Ev.ite_neg ?_ ?_); (first | assumption | (focus omega) | (focus (simp; done)))))
      refine Ev.all (n := a) (g := fun k i => spec_LatticeOk.l1 k U a i) _ (by omega) (fun h => ?_) fun b hb' _ R2 hR2 => ?_
      · refine Ev.succ ?_
        simp only [spec_LatticeOk.l1]
        repeat (first | ((with_reducible refine Ev.ite_pos ?_ ?_); (first | assumption | (focus omega) | (focus (simp; done)))) | ((with_reducible refine Ev.ite_neg ?_ ?_); (first | assumption | (focus omega) | (focus (simp; done)))))
        exact hR (allN_iff.2 h)
      · refine Ev.succ ?_
        have hb : b < U.length := by omega
        simp only [spec_LatticeOk.l1]
        repeat (first | ((with_reducible refine Ev.ite_pos ?_ ?_); (first | assumption | (focus omega) | (focus (simp; done)))) | ((with_reducible refine Ev.ite_neg ?_ ?_); (first | assumption | (focus omega) | (focus (simp; done)))))
        refine Ev.bind (spec_l1Meet.ev O ha hb) ?_
        unfold mI
        cases em : meetO U a b with
        | none => refine Ev.ite_pos (by simp [optI]) ?_
                  exact Ev.eq (Ev.now _) (by simp)
        | some m =>
          refine Ev.ite_neg (by have := optI_neg (some 0); simp [optI]) ?_
          refine Ev.bind (spec_l1Join.ev O ha hb) ?_
          unfold jI
          cases ej : joinO U a b with
          | none => refine Ev.ite_pos (by simp [optI]) ?_
                    exact Ev.eq (Ev.now _) (by simp)
          | some j =>
            refine Ev.ite_neg (by have := optI_neg (some 0); simp [optI]) ?_
            exact Ev.eq (hR2 (by simp [em, ej])) (by simp)
theorem spec_LeastOf.ev (U : List (List Int)) : Ev (fun k => spec_LeastOf.f k U) (if orderB U = true then (optI (leastO U), (leastO U).isSome) else (-1, false)) := by
  unfold spec_LeastOf.f
  have ho := spec_OrderOk.ev U
  cases hb : orderB U with
  | false =>
    rw [hb] at ho
    have fin : Ev (fun k => spec_LeastOf.j1 k U 0 false) (-1, false) := by
      refine Ev.succ ?_
      simp only [spec_LeastOf.j1]
      repeat (first | ((with_reducible refine Ev.ite_pos ?_ ?_); (first | assumption | (focus omega) | (focus (simp; done)))) | ((with_reducible refine Ev.ite_neg ?_ ?_); (first | assumption | (focus omega) | (focus (simp; done)))))
      exact Ev.now _
    repeat (first | ((with_reducible refine Ev.ite_pos ?_ ?_); (first | assumption | (focus omega) | (focus (simp; done)))) | ((with_reducible refine Ev.ite_neg ?_ ?_); (first | assumption | (focus omega) | (focus (simp; done)))))
    refine Ev.succ ?_
    simp only [spec_LeastOf.l0]
    by_cases h0 : (0 : Int) < (U.length : Int)
    · repeat (first | ((with_reducible refine Ev.ite_pos ?_ ?_); (first | assumption | (focus omega) | (focus (simp; done)))) | ((with_reducible refine Ev.ite_neg ?_ ?_); (first | assumption | (focus omega) | (focus (simp; done)))))
      exact Ev.eq (Ev.bind ho fin) (by simp)
    · repeat (first | ((with_reducible refine Ev.ite_pos ?_ ?_); (first | assumption | (focus omega) | (focus (simp; done)))) | ((with_reducible refine Ev.ite_neg ?_ ?_); (first | assumption | (focus omega) | (focus (simp; done)))))
      exact Ev.eq fin (by simp)
  | true =>
    rw [hb] at ho
    have O := orderB_iff.1 hb
    have hs := O.small
    refine Ev.eq (Ev.find (n := U.length) (g := fun k i => spec_LeastOf.l0 k U i) (fun a => allN U.length fun b => leB U a b) (none' := (-1, false)) (some' := fun i => ((i : Int), true)) (by omega) (fun _ => ?_) fun a ha _ R hR => ?_) (by rw [if_pos rfl]; unfold leastO; cases findN U.length _ <;> rfl)
    · refine Ev.succ ?_
      simp only [spec_LeastOf.l0]
      repeat (first | ((with_reducible refine Ev.ite_pos ?_ ?_); (first | assumption | (focus omega) | (focus (simp; done)))) | ((with_reducible refine Ev.ite_neg ?_ ?_); (first | assumption | (focus omega) | (focus (simp; done)))))
      refine Ev.succ ?_
      simp only [spec_LeastOf.j1]
      repeat (first | ((with_reducible refine Ev.ite_pos ?_ ?_); (first | assumption | (focus omega) | (focus (simp; done)))) | ((with_reducible refine Ev.ite_neg ?_ ?_); (first | assumption | (focus omega) | (focus (simp; done)))))
      exact Ev.now _
    · refine Ev.succ ?_
      simp only [spec_LeastOf.l0]
      repeat (first | ((with_reducible refine Ev.ite_pos ?_ ?_); (first | assumption | (focus omega) | (focus (simp; done)))) | ((with_reducible refine Ev.ite_neg ?_ ?_); (first | assumption | (focus omega) | (focus (simp; done)))))
      refine Ev.bind ho ?_
      refine Ev.succ ?_
      simp only [spec_LeastOf.j1]
      repeat (first | ((with_reducible refine Ev.ite_pos ?_ ?_); (first | assumption | (focus omega) | (focus (simp; done)))) | ((with_reducible refine Ev.ite_neg ?_ ?_); (first | assumption | (focus omega) | (focus (simp; done)))))
      have key : ∀ d i, i + d = U.length → ∀ fl : Bool, (fl && allFrom U.length (fun b => leB U a b) i) = allN U.length (fun b => leB U a b) → Ev (fun k => spec_LeastOf.l1 k U a fl i) (if allN U.length (fun b => leB U a b) = true then ((a : Int), true) else R) := by
        intro d
        induction d with
        | zero =>
          intro i hi fl hfl
          refine Ev.succ ?_
          simp only [spec_LeastOf.l1]
          rw [allFrom_ge (by omega), Bool.and_true] at hfl
          rw [hfl]
          repeat (first | ((with_reducible refine Ev.ite_pos ?_ ?_); (first | assumption | (focus omega) | (focus (simp; done)))) | ((with_reducible refine Ev.ite_neg ?_ ?_); (first | assumption | (focus omega) | (focus (simp; done)))))
          cases ha' : allN U.length (fun b => leB U a b) with
          | true => repeat (first | ((with_reducible refine Ev.ite_pos ?_ ?_); (first | assumption | (focus omega) | (focus (simp; done)))) | ((with_reducible refine Ev.ite_neg ?_ ?_); (first | assumption | (focus omega) | (focus (simp; done)))))
                    exact Ev.now _
          | false => repeat (first | ((with_reducible refine Ev.ite_pos ?_ ?_); (first | assumption | (focus omega) | (focus (simp; done)))) | ((with_reducible refine Ev.ite_neg ?_ ?_); (first | assumption | (focus omega) | (focus (simp; done)))))
                     exact hR ha'
        | succ d ih =>
          intro i hi fl hfl
          rw [allFrom_lt (by omega)] at hfl
          refine Ev.succ ?_
          have rl := O.row a ha
          simp only [spec_LeastOf.l1, rdL_nat, rd_nat, rd_row, wrap_nat (show i < 4611686018427387904 by omega), rl]
          repeat (first | ((with_reducible refine Ev.ite_pos ?_ ?_); (first | assumption | (focus omega) | (focus (simp; done)))) | ((with_reducible refine Ev.ite_neg ?_ ?_); (first | assumption | (focus omega) | (focus (simp; done)))))
          cases fl with
          | true => repeat (first | ((with_reducible refine Ev.ite_pos ?_ ?_); (first | assumption | (focus omega) | (focus (simp; done)))) | ((with_reducible refine Ev.ite_neg ?_ ?_); (first | assumption | (focus omega) | (focus (simp; done)))))
                    exact ih (i + 1) (by omega) _ hfl
          | false => repeat (first | ((with_reducible refine Ev.ite_pos ?_ ?_); (first | assumption | (focus omega) | (focus (simp; done)))) | ((with_reducible refine Ev.ite_neg ?_ ?_); (first | assumption | (focus omega) | (focus (simp; done)))))
                     exact ih (i + 1) (by omega) _ (by rw [← hfl]; simp)
      exact key U.length 0 (by omega) true (by rw [allFrom_zero, Bool.true_and])
def negS (U : List (List Int)) (N : List Int) (a : Nat) : Bool :=
  at1 N (at1 N a).toNat == (a : Int) && (mI U a (at1 N a).toNat == optI (leastO U) && allN U.length fun b => !leB U a b || leB U (at1 N b).toNat (at1 N a).toNat)
theorem logicB_spec (U : List (List Int)) (N : List Int) : logicB U N = (latticeB U && (N.length == U.length && (allN U.length (fun a => decide (0 ≤ at1 N a) && decide (at1 N a < U.length)) && allN U.length (negS U N)))) := by
  unfold logicB negS mI
  have e : ∀ x y : Option Nat, (optI x == optI y) = (x == y) := by
    intro x y
    rw [Bool.eq_iff_iff, beq_iff_eq, beq_iff_eq]
    exact ⟨optI_inj, fun h => by rw [h]⟩
  simp only [e]
theorem spec_LogicOk.ev (U : List (List Int)) (N : List Int) : Ev (fun k => spec_LogicOk.f k U N) (logicB U N) := by
  rw [logicB_spec]
  unfold spec_LogicOk.f
  refine Ev.bind (spec_LatticeOk.ev U) ?_
  have jf : Ev (fun k => spec_LogicOk.j0 k U.length true U N) false := by
    refine Ev.succ ?_
    simp only [spec_LogicOk.j0]
    repeat (first | ((with_reducible refine Ev.ite_pos ?_ ?_); (first | assumption | (focus omega) | (focus (simp; done)))) | ((with_reducible refine Ev.ite_neg ?_ ?_); (first | assumption | (focus omega) | (focus (simp; done)))))
    exact Ev.now _
  cases hl : latticeB U with
  | false => repeat (first | ((with_reducible refine Ev.ite_pos ?_ ?_); (first | assumption | (focus omega) | (focus (simp; done)))) | ((with_reducible refine Ev.ite_neg ?_ ?_); (first | assumption | (focus omega) | (focus (simp; done)))))
             exact Ev.eq jf (by simp)
  | true =>
    have O := latticeB_order hl
    have hs := O.small
    repeat (first | ((with_reducible refine Ev.ite_pos ?_ ?_); (first | assumption | (focus omega) | (focus (simp; done)))) | ((with_reducible refine Ev.ite_neg ?_ ?_); (first | assumption | (focus omega) | (focus (simp; done)))))
    by_cases hn : N.length = U.length
    · rw [show ((N.length : Int) != (U.length : Int)) = false by rw [hn]; simp, show (N.length == U.length) = true by simp [hn]]
      simp only [Bool.true_and]
      refine Ev.succ ?_
      simp only [spec_LogicOk.j0]
      repeat (first | ((with_reducible refine Ev.ite_pos ?_ ?_); (first | assumption | (focus omega) | (focus (simp; done)))) | ((with_reducible refine Ev.ite_neg ?_ ?_); (first | assumption | (focus omega) | (focus (simp; done)))))
      refine Ev.eq (Ev.all (n := U.length) (g := fun k i => spec_LogicOk.l0 k U.length i U N) (fun a => decide (0 ≤ at1 N a) && decide (at1 N a < U.length)) (go := allN U.length (negS U N)) (stop := false) (by omega) (fun hr => ?_) fun i hi _ R hR => ?_) (by cases allN U.length fun a => decide (0 ≤ at1 N a) && decide (at1 N a < U.length) <;> rfl)
      · have ran : ∀ a, a < U.length → ∃ m : Nat, at1 N a = m ∧ m < U.length := fun a ha => by
          have := hr a ha
          simp only [Bool.and_eq_true, decide_eq_true_eq] at this
          exact ⟨(at1 N a).toNat, by omega, by omega⟩
        refine Ev.succ ?_
        simp only [spec_LogicOk.l0]
        repeat (first | ((with_reducible refine Ev.ite_pos ?_ ?_); (first | assumption | (focus omega) | (focus (simp; done)))) | ((with_reducible refine Ev.ite_neg ?_ ?_); (first | assumption | (focus omega) | (focus (simp; done)))))
        refine Ev.bind (spec_LeastOf.ev U) ?_
        rw [if_pos (orderB_iff.2 O)]
        refine Ev.eq (Ev.all (n := U.length) (g := fun k i => spec_LogicOk.l1 k U.length (optI (leastO U)) i U N) (negS U N) (go := true) (stop := false) (by omega) (fun _ => ?_) fun a ha _ R hR => ?_) (by cases allN U.length (negS U N) <;> rfl)
        · refine Ev.succ ?_
          simp only [spec_LogicOk.l1]
          repeat (first | ((with_reducible refine Ev.ite_pos ?_ ?_); (first | assumption | (focus omega) | (focus (simp; done)))) | ((with_reducible refine Ev.ite_neg ?_ ?_); (first | assumption | (focus omega) | (focus (simp; done)))))
          exact Ev.now _
        · obtain ⟨m, hm, hmn⟩ := ran a ha
          have fal : Ev (fun k => spec_LogicOk.j3 k U.length (optI (leastO U)) a true U N) false := by
            refine Ev.succ ?_
            simp only [spec_LogicOk.j3]
            repeat (first | ((with_reducible refine Ev.ite_pos ?_ ?_); (first | assumption | (focus omega) | (focus (simp; done)))) | ((with_reducible refine Ev.ite_neg ?_ ?_); (first | assumption | (focus omega) | (focus (simp; done)))))
            exact Ev.now _
          refine Ev.succ ?_
          simp only [spec_LogicOk.l1, rd_nat, hm]
          have hneg : negS U N a = (at1 N m == (a : Int) && (mI U a m == optI (leastO U) && allN U.length fun b => !leB U a b || leB U (at1 N b).toNat m)) := by unfold negS; rw [hm, Int.toNat_natCast]
          repeat (first | ((with_reducible refine Ev.ite_pos ?_ ?_); (first | assumption | (focus omega) | (focus (simp; done)))) | ((with_reducible refine Ev.ite_neg ?_ ?_); (first | assumption | (focus omega) | (focus (simp; done)))))
          by_cases e1 : at1 N m = a
          · repeat (first | ((with_reducible refine Ev.ite_pos ?_ ?_); (first | assumption | (focus omega) | (focus (simp; done)))) | ((with_reducible refine Ev.ite_neg ?_ ?_); (first | assumption | (focus omega) | (focus (simp; done)))))
            refine Ev.bind (spec_l1Meet.ev O ha hmn) ?_
            by_cases e2 : mI U a m = optI (leastO U)
            · rw [show (mI U a m != optI (leastO U)) = false by simp [e2]]
              refine Ev.succ ?_
              simp only [spec_LogicOk.j3]
              repeat (first | ((with_reducible refine Ev.ite_pos ?_ ?_); (first | assumption | (focus omega) | (focus (simp; done)))) | ((with_reducible refine Ev.ite_neg ?_ ?_); (first | assumption | (focus omega) | (focus (simp; done)))))
              have hneg2 : negS U N a = allN U.length fun b => !leB U a b || leB U (at1 N b).toNat m := by rw [hneg, show (at1 N m == (a : Int)) = true by simp [e1], show (mI U a m == optI (leastO U)) = true by simp [e2], Bool.true_and, Bool.true_and]
              rw [hneg2]
              refine Ev.all (n := U.length) (g := fun k i => spec_LogicOk.l2 k U.length (optI (leastO U)) a i U N) _ (by omega) (fun h => ?_) fun b hb _ R3 hR3 => ?_
              · refine Ev.succ ?_
                simp only [spec_LogicOk.l2]
                repeat (first | ((with_reducible refine Ev.ite_pos ?_ ?_); (first | assumption | (focus omega) | (focus (simp; done)))) | ((with_reducible refine Ev.ite_neg ?_ ?_); (first | assumption | (focus omega) | (focus (simp; done)))))
                exact hR (by rw [hneg2]; exact allN_iff.2 h)
              · obtain ⟨q, hq, hqn⟩ := ran b hb
                have vab := O.val ha hb
                have vqm := O.val hqn hmn
                have ra := O.row a ha
                have rq := O.row q hqn
                refine Ev.succ ?_
                simp only [spec_LogicOk.l2, rdL_nat, rd_nat, rd_row, hq, hm, ra, rq, vab, vqm, Int.toNat_natCast]
                rw [hq, Int.toNat_natCast] at hR3
                repeat (first | ((with_reducible refine Ev.ite_pos ?_ ?_); (first | assumption | (focus omega) | (focus (simp; done)))) | ((with_reducible refine Ev.ite_neg ?_ ?_); (first | assumption | (focus omega) | (focus (simp; done)))))
                cases f1 : leB U a b with
                | false => repeat (first | ((with_reducible refine Ev.ite_pos ?_ ?_); (first | assumption | (focus omega) | (focus (simp; done)))) | ((with_reducible refine Ev.ite_neg ?_ ?_); (first | assumption | (focus omega) | (focus (simp; done)))))
                           exact hR3 (by simp [f1])
                | true =>
                  repeat (first | ((with_reducible refine Ev.ite_pos ?_ ?_); (first | assumption | (focus omega) | (focus (simp; done)))) | ((with_reducible refine Ev.ite_neg ?_ ?_); (first | assumption | (focus omega) | (focus (simp; done)))))
                  cases f2 : leB U q m with
                  | false => repeat (first | ((with_reducible refine Ev.ite_pos ?_ ?_); (first | assumption | (focus omega) | (focus (simp; done)))) | ((with_reducible refine Ev.ite_neg ?_ ?_); (first | assumption | (focus omega) | (focus (simp; done)))))
                             exact Ev.now _
                  | true => repeat (first | ((with_reducible refine Ev.ite_pos ?_ ?_); (first | assumption | (focus omega) | (focus (simp; done)))) | ((with_reducible refine Ev.ite_neg ?_ ?_); (first | assumption | (focus omega) | (focus (simp; done)))))
                            exact hR3 (by simp [f2])
            · rw [show (mI U a m != optI (leastO U)) = true by simp [e2]]
              exact Ev.eq fal (by rw [hneg]; simp [e2])
          · repeat (first | ((with_reducible refine Ev.ite_pos ?_ ?_); (first | assumption | (focus omega) | (focus (simp; done)))) | ((with_reducible refine Ev.ite_neg ?_ ?_); (first | assumption | (focus omega) | (focus (simp; done)))))
            exact Ev.eq fal (by rw [hneg]; simp [e1])
      · refine Ev.succ ?_
        simp only [spec_LogicOk.l0, rd_nat, l1In_eq]
        repeat (first | ((with_reducible refine Ev.ite_pos ?_ ?_); (first | assumption | (focus omega) | (focus (simp; done)))) | ((with_reducible refine Ev.ite_neg ?_ ?_); (first | assumption | (focus omega) | (focus (simp; done)))))
        refine Ev.pbind rfl ?_
        have e : (decide (0 ≤ at1 N i) && decide (at1 N i ≤ wrap64 ((U.length : Int) - 1))) = (decide (0 ≤ at1 N i) && decide (at1 N i < U.length)) := by
          rw [wrap_small (by omega) (by omega)]
          congr 1
          rw [decide_eq_decide]; omega
        rw [e]
        cases hb : (decide (0 ≤ at1 N i) && decide (at1 N i < U.length)) with
        | true => repeat (first | ((with_reducible refine Ev.ite_pos ?_ ?_); (first | assumption | (focus omega) | (focus (simp; done)))) | ((with_reducible refine Ev.ite_neg ?_ ?_); (first | assumption | (focus omega) | (focus (simp; done)))))
                  exact hR hb
        | false => repeat (first | ((with_reducible refine Ev.ite_pos ?_ ?_); (first | assumption | (focus omega) | (focus (simp; done)))) | ((with_reducible refine Ev.ite_neg ?_ ?_); (first | assumption | (focus omega) | (focus (simp; done)))))
                   exact Ev.now _
    · rw [show ((N.length : Int) != (U.length : Int)) = true by rw [bne_iff_ne]; omega, show (N.length == U.length) = false by simp [hn]]
      exact Ev.eq jf (by simp)
end Go.Proofs.Ytjoadckkdophnaa.Print
end
section
namespace Go.Proofs.Ytjoadckkdophnaa.Print
open Go.RowKit Go.Proofs.YtjoadckkdophnaaW.PrintWords Go.Proofs.YtjoadckkdophnaaW.PrintLast Go.Proofs.YtjoadckkdophnaaW.PrintMore
set_option linter.unusedVariables false
set_option linter.unusedSimpArgs false
open Oml
theorem enc_b {n s b : Nat} (hb : b < n) : (s * n + b) % n = b := by rw [Nat.add_comm, Nat.add_mul_mod_self_right, Nat.mod_eq_of_lt hb]
theorem enc_s {n s b : Nat} (hb : b < n) : (s * n + b) / n = s := by rw [Nat.add_comm, Nat.add_mul_div_right _ _ (by omega), Nat.div_eq_of_lt hb, Nat.zero_add]
theorem enc_lt {n s b m : Nat} (hs : s < m) (hb : b < n) : s * n + b < m * n := by
  have : (s + 1) * n ≤ m * n := Nat.mul_le_mul_right n hs
  rw [Nat.succ_mul] at this
  omega
end Go.Proofs.Ytjoadckkdophnaa.Print
end
section
namespace Go.Proofs.Ytjoadckkdophnaa.Print
open Go.RowKit Go.Proofs.YtjoadckkdophnaaW.PrintWords Go.Proofs.YtjoadckkdophnaaW.PrintLast Go.Proofs.YtjoadckkdophnaaW.PrintMore
set_option linter.unusedVariables false
set_option linter.unusedSimpArgs false
open Oml
theorem tdiv_nat (i n : Nat) : Int.tdiv (i : Int) (n : Int) = ((i / n : Nat) : Int) := by first | exact (Int.ofNat_tdiv i n).symm | rfl
theorem tmod_nat (i n : Nat) : Int.tmod (i : Int) (n : Int) = ((i % n : Nat) : Int) := by first | exact (Int.ofNat_tmod i n).symm | rfl
theorem wrap_cast {x : Nat} (h : x < 1000000) : wrap64 (x : Int) = (x : Int) := wrap_small (by omega) (by omega)
theorem cube_small {n : Nat} (h : n ≤ 12) : n * n * n ≤ 1728 := by
  have h1 : n * n ≤ 144 := Nat.mul_le_mul h h
  exact Nat.mul_le_mul h1 h
theorem wrap_cube {n : Nat} (h : n ≤ 12) : wrap64 (wrap64 ((n : Int) * n) * n) = ((n * n * n : Nat) : Int) := by
  have h1 : n * n ≤ 144 := Nat.mul_le_mul h h
  have h2 := cube_small h
  rw [show (n : Int) * n = ((n * n : Nat) : Int) by simp, wrap_cast (by omega), show ((n * n : Nat) : Int) * n = ((n * n * n : Nat) : Int) by simp, wrap_cast (by omega)]
theorem leI_nat (U : List (List Int)) (a b : Nat) : leI U a b = leB U a b := by simp [leI]
theorem mI_comm (U : List (List Int)) (a b : Nat) : mI U a b = mI U b a := by unfold mI; rw [meetO_comm]
end Go.Proofs.Ytjoadckkdophnaa.Print
end
section
namespace Go.Proofs.Ytjoadckkdophnaa.Print
open Go.RowKit Go.Proofs.YtjoadckkdophnaaW.PrintWords Go.Proofs.YtjoadckkdophnaaW.PrintLast Go.Proofs.YtjoadckkdophnaaW.PrintMore
set_option linter.unusedVariables false
set_option linter.unusedSimpArgs false
open Oml
section
variable {U : List (List Int)} {N : List Int} (L : Logic U N)
include L
theorem meet_in {a b : Int} (ha : In U a) (hb : In U b) : Ev (fun k => spec_l1Meet.f k U a b) (andI U a b) := by
  obtain ⟨x, rfl⟩ : ∃ x : Nat, a = x := ⟨a.toNat, by have := ha.1; omega⟩
  obtain ⟨y, rfl⟩ : ∃ y : Nat, b = y := ⟨b.toNat, by have := hb.1; omega⟩
  exact spec_l1Meet.ev L.toOrder (by have := ha.2; omega) (by have := hb.2; omega)
theorem join_in {a b : Int} (ha : In U a) (hb : In U b) : Ev (fun k => spec_l1Join.f k U a b) (orI U a b) := by
  obtain ⟨x, rfl⟩ : ∃ x : Nat, a = x := ⟨a.toNat, by have := ha.1; omega⟩
  obtain ⟨y, rfl⟩ : ∃ y : Nat, b = y := ⟨b.toNat, by have := hb.1; omega⟩
  exact spec_l1Join.ev L.toOrder (by have := ha.2; omega) (by have := hb.2; omega)
end
end Go.Proofs.Ytjoadckkdophnaa.Print
end
section
namespace Go.Proofs.Ytjoadckkdophnaa.Print
open Go.RowKit Go.Proofs.YtjoadckkdophnaaW.PrintWords Go.Proofs.YtjoadckkdophnaaW.PrintLast Go.Proofs.YtjoadckkdophnaaW.PrintMore
set_option linter.unusedVariables false
set_option linter.unusedSimpArgs false
open Oml
theorem goesV_ {P : Program} {ops : Array Oper} {Q : Exit → Act → World → Prop} {rest : List Oper} {oi : Oper} {a : Act} {w : World} (N : Option Tmp) (hd : oi.dst = N) (hg : oi.guard = none) {f : FuncId} {fn : Func} {x : Operand} {xo : Array Operand} {ts : Array TypeId} {cs : Array Value}
    (hf : P.funcs[f]? = some fn) (hname : (fn.name == "runtime.NumGoroutine") = false) (hb : fn.body.isSome = true) (args : Array Value)
    (hop : oi.op = .call { callee := .value x, args := xo, argTypes := ts }) (hx : a.eval x = .func (.func f) #[] cs) (hargs : xo.map a.eval = args)
    (h : Calls P f (args ++ cs) w fun e w' => ∃ v, e = .returned v ∧ wpList P ops Q rest (a.put N v) w') : wpList P ops Q (oi :: rest) a w := by
  refine wpList_plain hg fun K hK => ?_
  have he := enters_ hf hname hb (args ++ cs) w
  have hrun : (execOp a.eval oi).run P w = .ok (.enter f (args ++ cs)) w := by
    unfold execOp
    simp [hop, resolve, Deferred.ofValue, invoke, hx, hargs, he]
  unfold Oper.wp
  rw [hrun, Oper.upon_enter]
  refine h.mono fun e w'' hh => ?_
  obtain ⟨v, rfl, hk⟩ := hh
  subst hd
  exact hK _ _ hk
set_option maxHeartbeats 1000000 in
set_option maxRecDepth 100000 in
theorem every_calls (g : Nat) (U : List (List Int)) (N : List Int) (v : Adr) (w : World) (hs : U.length ≤ 12) (fv : Nat) (fn : Func) (cs : Array Value) (hf : Try.prog.funcs[fv]? = some fn) (hname : (fn.name == "runtime.NumGoroutine") = false) (hb : fn.body.isSome = true)
    (p : Nat → Nat → Bool) (J : Nat → World → Prop) (hV : ∀ i w', J i w' → View w' g U N v) (hD : ∀ i w' n, J i w' → J i (w'.drewN n)) (h0 : J 0 w)
    (step : ∀ a b : Nat, a < U.length → b < U.length → ∀ w', J (a * U.length + b) w' → Calls Try.prog fv (#[.int .i64 a, .int .i64 b] ++ cs) w' fun e w'' => e = .returned (.bool (p a b)) ∧ J (a * U.length + b + 1) w'') :
    Calls Try.prog 60 #[.pointer (some ⟨g, 0, none⟩), .func (.func fv) #[] cs] w fun e w' =>
      e = .returned (.bool (allN U.length fun a => allN U.length fun b => p a b)) ∧ ∃ i, J i w' ∧ ((allN U.length fun a => allN U.length fun b => p a b) = true → i = U.length * U.length) := by
  obtain ⟨r, hr⟩ : ∃ r, r = allN U.length fun a => allN U.length fun b => p a b := ⟨_, rfl⟩
  rw [← hr]
  have hu70 := Try.underlying57
  have HF := Aside0.mk hf
  have HNM := Aside0.mk hname
  have HBD := Aside0.mk hb
  have HV := Aside0.mk hV
  have HD := Aside0.mk hD
  have HJ0 := Aside0.mk h0
  have HST := Aside0.mk step
  have HR := Aside0.mk hr
  have hf0 := (hV 0 w h0).f0
  clear hf hname hb hV hD h0 step hr
  go_enter Try.func60, Try.ntmps60
  go_wp2_with fail
  go_loopg [12] (U.length + 1) (fun kq v12 W => ∃ i s : Nat, v12 = .int .i64 i ∧ Aside0 (i + kq = U.length + 1) ∧ Aside0 (i ≤ U.length) ∧ Aside0 (s = i * U.length) ∧ Aside0 (∀ a, a < i → ∀ b, b < U.length → p a b = true) ∧ Aside0 (J s W))
  case atStart => exact ⟨0, 0, rfl, ⟨by omega⟩, ⟨by omega⟩, ⟨by simp⟩, ⟨fun j hj => absurd hj (by omega)⟩, ⟨by first | exact HJ0.out | exact HD.out _ _ _ HJ0.out⟩⟩
  case round =>
    clear hf0
    obtain ⟨i, s, rfl, HK, HK2, HSI, HS, HJ⟩ := hrel
    have hf0 := (HV.out _ _ HJ.out).f0
    cases gk with
    | zero => exact absurd HK.out (by have := HK2.out; omega)
    | succ kn =>
    by_cases hlt : i < U.length
    · have hlt' : decide (i < U.length) = true := decide_eq_true hlt
      have HLT := Aside0.mk hlt
      clear hlt
      go_wp2_with fail
      go_loopg [20] (U.length + 1) (fun kq v20 W => ∃ j : Nat, v20 = .int .i64 j ∧ Aside0 (j + kq = U.length + 1) ∧ Aside0 (j ≤ U.length) ∧ Aside0 (∀ b, b < j → p i b = true) ∧ Aside0 (J (s + j) W))
      case atStart => exact ⟨0, rfl, ⟨by omega⟩, ⟨by omega⟩, ⟨fun j hj => absurd hj (by omega)⟩, ⟨by first | exact HJ.out | exact HD.out _ _ _ HJ.out⟩⟩
      case round =>
        clear hf0
        obtain ⟨j, rfl, HKj, HKj2, HSj, HJj⟩ := hrel
        cases gk with
        | zero => exact absurd HKj.out (by have := HKj2.out; omega)
        | succ kj =>
        by_cases hlj : j < U.length
        · have hlj' : decide (j < U.length) = true := decide_eq_true hlj
          have HLJ := Aside0.mk hlj
          clear hlj
          cases hp : p i j with
          | true =>
            have HP := Aside0.mk hp
            clear hp
            go_wp2_with (refine goesV_ (some 26) rfl rfl HF.out HNM.out HBD.out #[.int .i64 i, .int .i64 j] rfl rfl (by (try simp only [List.map_toArray, List.map_cons, List.map_nil]); first | done | rfl) ?_; refine (HST.out i j HLT.out HLJ.out _ ?sJ).mono ?_; (case sJ => first | (rw [← HSI.out]; exact HJj.out) | (rw [← HSI.out]; exact HD.out _ _ _ HJj.out)); rintro e w1 ⟨he, hj⟩; rw [HP.out] at he; subst he; refine ⟨_, rfl, ?_⟩; have HJ1 := Aside0.mk hj; clear hj)
            go_roundg kj
            case measure => omega
            case rel => exact ⟨j + 1, by first | go_num | (rw [wrap_small (by omega) (by have := HLJ.out; omega)]; go_num), ⟨by have := HKj.out; omega⟩, ⟨by have := HLJ.out; omega⟩, ⟨fun b hb => by
              rcases Nat.lt_or_ge b j with h | h
              · exact HSj.out b h
              · obtain rfl : b = j := by omega
                exact HP.out⟩, ⟨by have h1 := HJ1.out; rw [← HSI.out, Nat.add_assoc] at h1; first | exact h1 | exact HD.out _ _ _ h1⟩⟩
          | false =>
            have HP := Aside0.mk hp
            clear hp
            have hrf : r = false := by
              rw [HR.out]
              exact allN_false.2 ⟨i, HLT.out, allN_false.2 ⟨j, HLJ.out, HP.out⟩⟩
            subst hrf
            go_wp2_with (refine goesV_ (some 26) rfl rfl HF.out HNM.out HBD.out #[.int .i64 i, .int .i64 j] rfl rfl (by (try simp only [List.map_toArray, List.map_cons, List.map_nil]); first | done | rfl) ?_; refine (HST.out i j HLT.out HLJ.out _ ?sJ).mono ?_; (case sJ => first | (rw [← HSI.out]; exact HJj.out) | (rw [← HSI.out]; exact HD.out _ _ _ HJj.out)); rintro e w1 ⟨he, hj⟩; rw [HP.out] at he; subst he; refine ⟨_, rfl, ?_⟩; have HJ1 := Aside0.mk hj; clear hj)
            go_ret
            exact ⟨rfl, _, by first | exact HJ1.out | exact HD.out _ _ _ HJ1.out, fun h => by cases h⟩
        · have hlj' : decide (j < U.length) = false := decide_eq_false hlj
          obtain rfl : j = U.length := by have := HKj2.out; omega
          clear hlj
          go_wp2_with fail
          go_roundg kn
          case measure => omega
          case rel => exact ⟨i + 1, s + U.length, by first | go_num | (rw [wrap_small (by omega) (by have := HLT.out; omega)]; go_num), ⟨by have := HK.out; omega⟩, ⟨by have := HLT.out; omega⟩, ⟨by rw [Nat.succ_mul, HSI.out]⟩, ⟨fun a ha => by
            rcases Nat.lt_or_ge a i with h | h
            · exact HS.out a h
            · obtain rfl : a = i := by omega
              exact HSj.out⟩, ⟨by first | exact HJj.out | exact HD.out _ _ _ HJj.out⟩⟩
    · have hlt' : decide (i < U.length) = false := decide_eq_false hlt
      obtain rfl : i = U.length := by have := HK2.out; omega
      have hrt : r = true := by
        rw [HR.out, allN_iff]
        intro a ha
        exact allN_iff.2 (HS.out a ha)
      subst hrt
      clear hlt
      go_wp2_with fail
      go_ret
      have hj := HJ.out
      rw [HSI.out] at hj
      exact ⟨rfl, by first | exact hj | exact HD.out _ _ _ hj⟩
theorem every_pure (g : Nat) (U : List (List Int)) (N : List Int) (v : Adr) (w : World) (hs : U.length ≤ 12) (hV : View w g U N v) (fv : Nat) (fn : Func) (cs : Array Value) (hf : Try.prog.funcs[fv]? = some fn) (hname : (fn.name == "runtime.NumGoroutine") = false) (hb : fn.body.isSome = true)
    (p : Nat → Nat → Bool) (step : ∀ a b : Nat, a < U.length → b < U.length → ∀ W, Below w.heap.size w W → Calls Try.prog fv (#[.int .i64 a, .int .i64 b] ++ cs) W fun e w'' => e = .returned (.bool (p a b)) ∧ Below W.heap.size W w'') :
    Calls Try.prog 60 #[.pointer (some ⟨g, 0, none⟩), .func (.func fv) #[] cs] w fun e w' => e = .returned (.bool (allN U.length fun a => allN U.length fun b => p a b)) ∧ Below w.heap.size w w' := by
  refine (every_calls g U N v w hs fv fn cs hf hname hb p (fun _ W => Below w.heap.size w W) (fun _ W h => hV.below h) (fun _ W n h => pw_below_drewN h n) (Below.refl _ _) (fun a b ha hb' W hW => ?_)).mono ?_
  · refine (step a b ha hb' W hW).mono ?_
    rintro e w2 ⟨rfl, h2⟩
    exact ⟨rfl, below_step hW h2⟩
  · rintro e w2 ⟨rfl, i, h2, _⟩
    exact ⟨rfl, h2⟩
def filI (n : Nat) (p : Nat → Bool) : List Int := ((List.range n).filter p).map fun (a : Nat) => (a : Int)
theorem filI_succ (n : Nat) (p : Nat → Bool) : filI (n + 1) p = if p n = true then filI n p ++ [(n : Int)] else filI n p := by
  unfold filI
  rw [List.range_succ, List.filter_append, List.map_append]
  cases h : p n <;> simp [h]
theorem filI_length (n : Nat) (p : Nat → Bool) : (filI n p).length ≤ n := by
  unfold filI
  rw [List.length_map]
  exact Nat.le_trans (List.length_filter_le _ _) (by simp)
set_option maxHeartbeats 1000000 in
set_option maxRecDepth 100000 in
theorem all_calls (g : Nat) (U : List (List Int)) (N : List Int) (v : Adr) (w : World) (hs : U.length ≤ 12) (hV : View w g U N v) (fv : Nat) (fn : Func) (cs : Array Value) (hf : Try.prog.funcs[fv]? = some fn) (hname : (fn.name == "runtime.NumGoroutine") = false) (hb : fn.body.isSome = true)
    (p : Nat → Bool) (step : ∀ a : Nat, a < U.length → ∀ W, Below w.heap.size w W → Calls Try.prog fv (#[.int .i64 a] ++ cs) W fun e w'' => e = .returned (.bool (p a)) ∧ Below W.heap.size W w'') :
    Calls Try.prog 62 #[.pointer (some ⟨g, 0, none⟩), .func (.func fv) #[] cs] w fun e w' => ∃ v0, e = .returned v0 ∧ Kd.R (Kd.int .i64) 3 w' w.heap.size (fun _ => True) v0 (filI U.length p) ∧ Below w.heap.size w w' := by
  have hu70 := Try.underlying57
  have HF := Aside0.mk hf
  have HNM := Aside0.mk hname
  have HBD := Aside0.mk hb
  have HV := Aside0.mk hV
  have HST := Aside0.mk step
  have HB := Aside0.mk (Below.refl w.heap.size w)
  have hf0 := hV.f0
  clear hf hname hb hV step
  go_enter Try.func62, Try.ntmps62
  go_wp2_with (first | ((with_reducible refine gate_dst (N := 7) rfl ?_); refine Kd.R_lit (Kd.int .i64) _ 3 ?hg (N := 7) ?hd (xs := ([] : List Int)) (inner := []) (ok := fun _ => True) (okp := fun _ => True) ?hr ?hp (fun _ hk => hk) trivial (Below.refl _ _) (Nat.le_refl _) (by simp) ?_; (case hd => rfl); (case hg => rfl); (case hr => first | (go_simp; done) | (go_simp; rfl)); (case hp => exact (Reps.none _ _)); intro v496 w4 ho5 hb hg_ hnew_; clear hg_ hnew_; have HO := Aside0.mk ho5; have HB2 := Aside0.mk (below_step HB.out hb); have hf0' := (HV.out.below hb).f0; clear HB hf0 ho5 hb))
  go_loopg [5, 13] (U.length + 1) (fun kq v5 v13 W => ∃ i : Nat, v13 = .int .i64 i ∧ Aside0 (i + kq = U.length + 1) ∧ Aside0 (i ≤ U.length) ∧ Aside0 (Kd.R (Kd.int .i64) 3 W w.heap.size (fun _ => True) v5 (filI i p)) ∧ Aside0 (Below w.heap.size w W))
  case atStart => exact ⟨0, rfl, ⟨by omega⟩, ⟨by omega⟩, ⟨by (with_reducible repeat (first | apply Kd.R_alloc | apply Kd.R_drewN | apply Kd.R_drew)); exact HO.out⟩, ⟨by repeat (first | exact HB2.out | apply below_alloc | apply pw_below_drewN | apply below_drew1)⟩⟩
  case round =>
    clear hf0'
    obtain ⟨i, rfl, HK, HK2, HO1, HB1⟩ := hrel
    cases gk with
    | zero => exact absurd HK.out (by have := HK2.out; omega)
    | succ kn =>
    by_cases hlt : i < U.length
    · have hlt' : decide (i < U.length) = true := decide_eq_true hlt
      have HLT := Aside0.mk hlt
      clear hlt
      cases hp : p i with
      | true =>
        have HP := Aside0.mk hp
        clear hp
        go_wp2_with (first | (refine goesV_ (some 18) rfl rfl HF.out HNM.out HBD.out #[.int .i64 i] rfl rfl (by (try simp only [List.map_toArray, List.map_cons, List.map_nil]); first | done | rfl) ?_; refine (HST.out i HLT.out _ ?sJ).mono ?_; (case sJ => repeat (first | exact HB1.out | apply below_alloc | apply pw_below_drewN | apply below_drew1)); rintro e w1 ⟨he, hj⟩; rw [HP.out] at he; subst he; refine ⟨_, rfl, ?_⟩; have HB3 := Aside0.mk (below_step (by repeat (first | exact HB1.out | apply below_alloc | apply pw_below_drewN | apply below_drew1)) hj); have HO3 := Aside0.mk (Kd.R_below (by (with_reducible repeat (first | apply Kd.R_alloc | apply Kd.R_drewN | apply Kd.R_drew)); exact HO1.out) hj); clear hj) | ((with_reducible refine gate_builtin (b := .append) (xs := #[.tmp 19, .tmp 21]) rfl ?_); at_builtin; refine Kd.R_append (Kd.int .i64) (w0 := w) w.heap.size rfl (.tmp 19) (.tmp 21) 24 3 (.int .i64 0) 8 rfl Try.underlying24 infoInt rfl (by decide) (by omega) u5 (filI i p) (i : Int) [.int .i64 i] (fun _ => True) (fun _ => False) rfl rfl ?aP (fun _ hk => hk.elim) ?aF ?aO ?aB ?aS ?aL ?_; (case aP => exact rfl); (case aB => exact (by repeat (first | exact HB3.out | apply below_alloc | apply pw_below_drewN | apply below_drew1))); (case aF => exact (fun _ _ => trivial)); (case aO => exact (by (with_reducible repeat (first | apply Kd.R_alloc | apply Kd.R_drewN | apply Kd.R_drew)); exact HO3.out)); (case aS => exact (below_size (by repeat (first | exact HB3.out | apply below_alloc | apply pw_below_drewN | apply below_drew1)))); (case aL => have := filI_length i p; have := HLT.out; omega); intro v5n w21 ho hb hg hat; have HB4 := Aside0.mk hb; have HO4 := Aside0.mk ho; clear ho hb hg hat))
        go_roundg kn
        case measure => omega
        case rel => exact ⟨i + 1, by first | go_num | (rw [wrap_small (by omega) (by have := HLT.out; omega)]; go_num), ⟨by have := HK.out; omega⟩, ⟨by have := HLT.out; omega⟩, ⟨by rw [filI_succ, if_pos HP.out]; (with_reducible repeat (first | apply Kd.R_alloc | apply Kd.R_drewN | apply Kd.R_drew)); exact HO4.out⟩, ⟨by repeat (first | exact HB4.out | apply below_alloc | apply pw_below_drewN | apply below_drew1)⟩⟩
      | false =>
        have HP := Aside0.mk hp
        clear hp
        go_wp2_with (refine goesV_ (some 18) rfl rfl HF.out HNM.out HBD.out #[.int .i64 i] rfl rfl (by (try simp only [List.map_toArray, List.map_cons, List.map_nil]); first | done | rfl) ?_; refine (HST.out i HLT.out _ ?sJ).mono ?_; (case sJ => repeat (first | exact HB1.out | apply below_alloc | apply pw_below_drewN | apply below_drew1)); rintro e w1 ⟨he, hj⟩; rw [HP.out] at he; subst he; refine ⟨_, rfl, ?_⟩; have HB3 := Aside0.mk (below_step (by repeat (first | exact HB1.out | apply below_alloc | apply pw_below_drewN | apply below_drew1)) hj); have HO3 := Aside0.mk (Kd.R_below (by (with_reducible repeat (first | apply Kd.R_alloc | apply Kd.R_drewN | apply Kd.R_drew)); exact HO1.out) hj); clear hj)
        go_roundg kn
        case measure => omega
        case rel => exact ⟨i + 1, by first | go_num | (rw [wrap_small (by omega) (by have := HLT.out; omega)]; go_num), ⟨by have := HK.out; omega⟩, ⟨by have := HLT.out; omega⟩, ⟨by rw [filI_succ, if_neg (by rw [HP.out]; simp)]; (with_reducible repeat (first | apply Kd.R_alloc | apply Kd.R_drewN | apply Kd.R_drew)); exact HO3.out⟩, ⟨by repeat (first | exact HB3.out | apply below_alloc | apply pw_below_drewN | apply below_drew1)⟩⟩
    · have hlt' : decide (i < U.length) = false := decide_eq_false hlt
      obtain rfl : i = U.length := by have := HK2.out; omega
      clear hlt
      go_wp2_with fail
      go_ret
      exact ⟨_, rfl, by (with_reducible repeat (first | apply Kd.R_alloc | apply Kd.R_drewN | apply Kd.R_drew)); exact HO1.out, by repeat (first | exact HB1.out | apply below_alloc | apply pw_below_drewN | apply below_drew1)⟩
end Go.Proofs.Ytjoadckkdophnaa.Print
end
section
namespace Go.Proofs.Ytjoadckkdophnaa.Print
open Go.RowKit Go.Proofs.YtjoadckkdophnaaW.PrintWords Go.Proofs.YtjoadckkdophnaaW.PrintLast Go.Proofs.YtjoadckkdophnaaW.PrintMore
set_option linter.unusedVariables false
set_option linter.unusedSimpArgs false
open Oml
def modT (U : List (List Int)) (a b c : Int) : Bool := orI U a (andI U b c) == andI U c (orI U a b)
def modB (U : List (List Int)) : Bool := allN U.length fun a => allN U.length fun c => !leI U a c || allN U.length fun b => modT U a b c
theorem natcast_beq (x y : Nat) : ((x : Int) == (y : Int)) = (x == y) := by rw [Bool.eq_iff_iff, beq_iff_eq, beq_iff_eq]; constructor <;> intro h <;> omega
theorem filI_all (n : Nat) (p : Nat → Bool) : ((filI n p).length == n) = allN n p := by
  rw [Bool.eq_iff_iff, beq_iff_eq, allN_iff]
  unfold filI
  rw [List.length_map]
  constructor
  · intro h i hi
    have h2 : ((List.range n).filter p).length = (List.range n).length := by rw [h]; simp
    have := List.length_filter_eq_length_iff.1 h2 i (by simpa using hi)
    exact this
  · intro h
    rw [List.filter_eq_self.2 (fun i hi => h i (by simpa using hi))]
    simp
theorem mod_c2 (g : Nat) (U : List (List Int)) (N : List Int) (v : Adr) (w : World) (L : Logic U N) (hV : View w g U N v) (gG gA gC : Nat) (a b c : Int) (ia : In U a) (ib : In U b) (ic : In U c)
    (hG : w.heap[gG]? = some (.cells #[.pointer (some ⟨g, 0, none⟩)] 53 (0, 0))) (hA : w.heap[gA]? = some (.cells #[.int .i64 a] 3 (0, 0))) (hC : w.heap[gC]? = some (.cells #[.int .i64 c] 3 (0, 0))) :
    Calls Try.prog 63 #[.int .i64 b, .pointer (some ⟨gG, 0, none⟩), .pointer (some ⟨gA, 0, none⟩), .pointer (some ⟨gC, 0, none⟩)] w fun e w' => e = .returned (.bool (modT U a b c)) ∧ Below w.heap.size w w' := by
  have hu70 := Try.underlying57
  have HV := Aside0.mk hV
  have HLg := Aside0.mk L
  have Ia := Aside0.mk ia
  have Ib := Aside0.mk ib
  have Ic := Aside0.mk ic
  have x0 : w.cell? ⟨gG, 0, none⟩ = some (.pointer (some ⟨g, 0, none⟩)) := (blk_cell hG 0).trans rfl
  have x1 : w.cell? ⟨gA, 0, none⟩ = some (.int .i64 a) := (blk_cell hA 0).trans rfl
  have x2 : w.cell? ⟨gC, 0, none⟩ = some (.int .i64 c) := (blk_cell hC 0).trans rfl
  clear hV L ia ib ic hG hA hC
  have b0_ := eq_true Ib.out.1; have c0_ := eq_true Ib.out.2
  have b1_ := eq_true Ic.out.1; have c1_ := eq_true Ic.out.2
  have hf1_ := HV.out.f1
  have r3_ := HV.out.m b Ib.out
  have s4_ := HV.out.m2 b c Ib.out Ic.out
  have b5_ := eq_true Ia.out.1; have c5_ := eq_true Ia.out.2
  have IN1_ := Aside0.mk (HLg.out.in_and Ib.out Ic.out)
  have b6_ := eq_true IN1_.out.1; have c6_ := eq_true IN1_.out.2
  have hf2_ := HV.out.f2
  have r8_ := HV.out.j a Ia.out
  have s9_ := HV.out.j2 a (andI U b c) Ia.out IN1_.out
  have s10_ := HV.out.j2 a b Ia.out Ib.out
  have IN2_ := Aside0.mk (HLg.out.in_or Ia.out Ib.out)
  have b11_ := eq_true IN2_.out.1; have c11_ := eq_true IN2_.out.2
  have r12_ := HV.out.m c Ic.out
  have s13_ := HV.out.m2 c (orI U a b) Ic.out IN2_.out
  unfold modT
  go_enter Try.func63, Try.ntmps63
  go_wp2_with fail
  go_quiet (fail)
  go_wp2
  go_ret
  exact ⟨rfl, by repeat (first | exact Below.refl _ _ | apply pw_below_drewN | apply below_drew1)⟩
def mod_c1.T1 : Bool × List (List Nat × List Nat) := (true, [([], []), ([0], [0]), ([1], [1]), ([2], [2]), ([], []), ([3, 4], [3, 4]), ([5], [5]), ([], []), ([6, 7], [6, 7]), ([8], [8]), ([9], [9]), ([10], [10]), ([11], [11]), ([11], [11]), ([12, 13, 11, 11], [11, 12, 13]), ([14, 11], [11, 14]), ([11], [11]), ([16, 11], [11, 16]), ([17, 11], [11, 17]), ([18, 11], [11, 18]), ([19, 11], [11, 19]), ([15, 20, 11], [11, 15, 20]), ([11, 21], [11, 21]), ([22, 14, 0, 1, 2, 3, 4, 5, 6, 7, 8, 9, 10, 11, 12, 13, 14, 15, 16, 17, 18, 19, 20, 21, 22], [22])])
def mod_c1.B1 : List Nat := [0, 1, 3, 7, 0, 31, 63, 0, 255, 511, 1023, 2047, 4095, 4095, 16383, 32767, 4095, 69631, 200703, 462847, 987135, 2097151, 4194303, 8388607]
theorem mod_c1.tab1 : rtab .any (opsOf Try.f61 1) = mod_c1.T1 := by kernel_rfl
theorem mod_c1.bits1 : waitsOk mod_c1.T1.2 mod_c1.B1 = true := by kernel_rfl
set_option maxHeartbeats 4000000 in
set_option maxRecDepth 100000 in
theorem mod_c1 (g : Nat) (U : List (List Int)) (N : List Int) (v : Adr) (w : World) (L : Logic U N) (hV : View w g U N v) (gG : Nat) (a c : Int) (ia : In U a) (ic : In U c) (hG : w.heap[gG]? = some (.cells #[.pointer (some ⟨g, 0, none⟩)] 53 (0, 0))) :
    Calls Try.prog 61 #[.int .i64 a, .int .i64 c, .pointer (some ⟨gG, 0, none⟩)] w fun e w' => e = .returned (.bool (!leI U a c || allN U.length fun b => modT U a b c)) ∧ Below w.heap.size w w' := by
  have hu70 := Try.underlying57
  have HV := Aside0.mk hV
  have HLg := Aside0.mk L
  have Ia := Aside0.mk ia
  have Ic := Aside0.mk ic
  have HG := Aside0.mk hG
  have b1 := eq_true ia.1
  have b2 := eq_true ia.2
  have b3 := eq_true ic.1
  have b4 := eq_true ic.2
  have v1 := L.le_val ia ic
  clear hV L ia ic hG
  cases hle : leI U a c with
  | false =>
    rw [hle] at v1
    clear hle
    go_enter Try.func61, Try.ntmps61
    go_wp2_with (first | ((with_reducible refine gate_dst (N := 3) rfl ?_); refine box_event ?hg (N := 3) ?hd (cs := #[.int .i64 a]) (t := 3) ?hr ?_; (case hd => rfl); (case hg => rfl); (case hr => first | (go_simp; done) | (go_simp; rfl)); intro gA hg_ w1 hbox hb; have HXA := Aside0.mk hbox; have HB1 := Aside0.mk hb; have HG1 := Aside0.mk (blk_below HG.out hb); have HV1 := Aside0.mk (HV.out.below hb); clear hbox hb hg_) | ((with_reducible refine gate_dst (N := 4) rfl ?_); refine box_event ?hg (N := 4) ?hd (cs := #[.int .i64 c]) (t := 3) ?hr ?_; (case hd => rfl); (case hg => rfl); (case hr => first | (go_simp; done) | (go_simp; rfl)); intro gC hg_ w2 hbox hb; have HXC := Aside0.mk hbox; have HB2 := Aside0.mk (below_step HB1.out hb); have HXA2 := Aside0.mk (blk_below HXA.out hb); have HG2 := Aside0.mk (blk_below HG1.out hb); have HV2 := Aside0.mk (HV1.out.below hb); clear HB1 HXA HG1 HV1; clear hbox hb hg_))
    have hcell_ : ∀ {W : World}, View W g U N v → W.cell? ((v.rU a.toNat).add c.toNat) = some (.int .i64 0) := fun h => by have h2 := h.u2 a c Ia.out Ic.out; rw [v1] at h2; exact h2
    have y0 : w2.cell? ⟨gG, 0, none⟩ = some (.pointer (some ⟨g, 0, none⟩)) := (blk_cell HG2.out 0).trans rfl
    have y1 : w2.cell? ⟨gA, 0, none⟩ = some (.int .i64 a) := (blk_cell HXA2.out 0).trans rfl
    have y2 : w2.cell? ⟨gC, 0, none⟩ = some (.int .i64 c) := (blk_cell HXC.out 0).trans rfl
    have y3 := HV2.out.f0
    have y4 := HV2.out.u a Ia.out
    have y5 := hcell_ HV2.out
    clear v1 hcell_
    go_quiet (fail)
    go_wp2
    go_ret
    exact ⟨rfl, by repeat (first | exact HB2.out | apply pw_below_drewN | apply below_drew1)⟩
  | true =>
    rw [hle] at v1
    clear hle
    rw [← filI_all]
    go_enter Try.func61, Try.ntmps61
    go_wp2_with (first | ((with_reducible refine gate_dst (N := 3) rfl ?_); refine box_event ?hg (N := 3) ?hd (cs := #[.int .i64 a]) (t := 3) ?hr ?_; (case hd => rfl); (case hg => rfl); (case hr => first | (go_simp; done) | (go_simp; rfl)); intro gA hg_ w1 hbox hb; have HXA := Aside0.mk hbox; have HB1 := Aside0.mk hb; have HG1 := Aside0.mk (blk_below HG.out hb); have HV1 := Aside0.mk (HV.out.below hb); clear hbox hb hg_) | ((with_reducible refine gate_dst (N := 4) rfl ?_); refine box_event ?hg (N := 4) ?hd (cs := #[.int .i64 c]) (t := 3) ?hr ?_; (case hd => rfl); (case hg => rfl); (case hr => first | (go_simp; done) | (go_simp; rfl)); intro gC hg_ w2 hbox hb; have HXC := Aside0.mk hbox; have HB2 := Aside0.mk (below_step HB1.out hb); have HXA2 := Aside0.mk (blk_below HXA.out hb); have HG2 := Aside0.mk (blk_below HG1.out hb); have HV2 := Aside0.mk (HV1.out.below hb); clear HB1 HXA HG1 HV1; clear hbox hb hg_))
    have hcell_ : ∀ {W : World}, View W g U N v → W.cell? ((v.rU a.toNat).add c.toNat) = some (.int .i64 1) := fun h => by have h2 := h.u2 a c Ia.out Ic.out; rw [v1] at h2; exact h2
    refine start_ (n := 24) (S := (fun w' => w'.cell? ⟨gG, 0, none⟩ = some (.pointer (some ⟨g, 0, none⟩)) ∧ w'.cell? ⟨gA, 0, none⟩ = some (.int .i64 a) ∧ w'.cell? ⟨gC, 0, none⟩ = some (.int .i64 c) ∧ w'.cell? ⟨g, 0, none⟩ = some (.slice (some v.aU) U.length v.cU) ∧ w'.cell? (v.aU.add a.toNat) = some (.slice (some (v.rU a.toNat)) U.length (v.qU a.toNat)) ∧ w'.cell? ((v.rU a.toNat).add c.toNat) = some (.int .i64 1))) (ds := []) #[false, false, false, false, false, false, false, false, false, false, false, false, false, false, false, false, false, false, false, false, false, false, false, false] (by kernel_rfl) rfl rfl ⟨(blk_cell (blk_drew HG2.out) 0).trans rfl, (blk_cell (blk_drew HXA2.out) 0).trans rfl, (blk_cell (blk_drew HXC.out) 0).trans rfl, (HV2.out.below (below_drew1 (Below.refl _ _))).f0, (HV2.out.below (below_drew1 (Below.refl _ _))).u a Ia.out, hcell_ (HV2.out.below (below_drew1 (Below.refl _ _)))⟩ (fun hHeld => ?_)
    refine with_tabW mod_c1.tab1 mod_c1.bits1 (fun HT_ HW_ => ?_)
    generalize hwd : w2.drew = wd at hHeld ⊢
    have HB3 := Aside0.mk (show Below w.heap.size w wd from hwd ▸ below_drew1 HB2.out)
    replace HG2 := Aside0.mk (hwd ▸ blk_drew HG2.out)
    replace HXA2 := Aside0.mk (hwd ▸ blk_drew HXA2.out)
    replace HXC := Aside0.mk (hwd ▸ blk_drew HXC.out)
    replace HV2 := Aside0.mk (show View wd g U N v from hwd ▸ HV2.out.below (below_drew1 (Below.refl _ _)))
    clear hwd HB2
    refine take_ (i := 0) (N := some 6) (v := ?_) (a' := ?_) #[true, false, false, false, false, false, false, false, false, false, false, false, false, false, false, false, false, false, false, false, false, false, false, false] rfl rfl (take_ofW HT_.out HW_.out (by kernel_rfl)) (fun _ _ _ h => h) (Or.inl ⟨by rfl, ?_⟩) hHeld ?_ ?_
    rotate_left
    · rintro w' ⟨s0, s1, s2, s3, s4, s5⟩; go_simp; with_reducible rfl
    rotate_left
    · simp only [Act.put, List.setIfInBounds_toArray, List.set_cons_zero, List.set_cons_succ, i64_w, i32_w]; rfl
    refine pure_ (i := 1) (N := some 7) (v := ?_) (a' := ?_) #[true, true, false, false, false, false, false, false, false, false, false, false, false, false, false, false, false, false, false, false, false, false, false, false] rfl rfl (any_of HT_.out (by kernel_rfl)) (fun _ _ _ h => h) (Or.inl ⟨by rfl, ?_⟩) ?_ ?_
    rotate_left
    · intro w'; go_simp; with_reducible rfl
    rotate_left
    · simp only [Act.put, List.setIfInBounds_toArray, List.set_cons_zero, List.set_cons_succ, i64_w, i32_w]; rfl
    refine pure_ (i := 2) (N := some 8) (v := ?_) (a' := ?_) #[true, true, true, false, false, false, false, false, false, false, false, false, false, false, false, false, false, false, false, false, false, false, false, false] rfl rfl (any_of HT_.out (by kernel_rfl)) (fun _ _ _ h => h) (Or.inl ⟨by rfl, ?_⟩) ?_ ?_
    rotate_left
    · intro w'; go_simp; with_reducible rfl
    rotate_left
    · simp only [Act.put, List.setIfInBounds_toArray, List.set_cons_zero, List.set_cons_succ, i64_w, i32_w]; rfl
    refine take_ (i := 3) (N := some 9) (v := ?_) (a' := ?_) #[true, true, true, true, false, false, false, false, false, false, false, false, false, false, false, false, false, false, false, false, false, false, false, false] rfl rfl (take_ofW HT_.out HW_.out (by kernel_rfl)) (fun _ _ _ h => h) (Or.inl ⟨by rfl, ?_⟩) hHeld ?_ ?_
    rotate_left
    · rintro w' ⟨s0, s1, s2, s3, s4, s5⟩; go_simp; with_reducible rfl
    rotate_left
    · simp only [Act.put, List.setIfInBounds_toArray, List.set_cons_zero, List.set_cons_succ, i64_w, i32_w]; rfl
    refine take_ (i := 4) (N := some 10) (v := ?_) (a' := ?_) #[true, true, true, true, true, false, false, false, false, false, false, false, false, false, false, false, false, false, false, false, false, false, false, false] rfl rfl (take_ofW HT_.out HW_.out (by kernel_rfl)) (fun _ _ _ h => h) (Or.inl ⟨by rfl, ?_⟩) hHeld ?_ ?_
    rotate_left
    · rintro w' ⟨s0, s1, s2, s3, s4, s5⟩; go_simp; with_reducible rfl
    rotate_left
    · simp only [Act.put, List.setIfInBounds_toArray, List.set_cons_zero, List.set_cons_succ, i64_w, i32_w]; rfl
    refine pure_ (i := 5) (N := some 11) (v := ?_) (a' := ?_) #[true, true, true, true, true, true, false, false, false, false, false, false, false, false, false, false, false, false, false, false, false, false, false, false] rfl rfl (any_of HT_.out (by kernel_rfl)) (fun _ _ _ h => h) (Or.inl ⟨by rfl, ?_⟩) ?_ ?_
    rotate_left
    · intro w'; go_simp; with_reducible rfl
    rotate_left
    · simp only [Act.put, List.setIfInBounds_toArray, List.set_cons_zero, List.set_cons_succ, i64_w, i32_w]; rfl
    refine take_ (i := 6) (N := some 12) (v := ?_) (a' := ?_) #[true, true, true, true, true, true, true, false, false, false, false, false, false, false, false, false, false, false, false, false, false, false, false, false] rfl rfl (take_ofW HT_.out HW_.out (by kernel_rfl)) (fun _ _ _ h => h) (Or.inl ⟨by rfl, ?_⟩) hHeld ?_ ?_
    rotate_left
    · rintro w' ⟨s0, s1, s2, s3, s4, s5⟩; go_simp; with_reducible rfl
    rotate_left
    · simp only [Act.put, List.setIfInBounds_toArray, List.set_cons_zero, List.set_cons_succ, i64_w, i32_w]; rfl
    refine take_ (i := 7) (N := some 13) (v := ?_) (a' := ?_) #[true, true, true, true, true, true, true, true, false, false, false, false, false, false, false, false, false, false, false, false, false, false, false, false] rfl rfl (take_ofW HT_.out HW_.out (by kernel_rfl)) (fun _ _ _ h => h) (Or.inl ⟨by rfl, ?_⟩) hHeld ?_ ?_
    rotate_left
    · rintro w' ⟨s0, s1, s2, s3, s4, s5⟩; go_simp; with_reducible rfl
    rotate_left
    · simp only [Act.put, List.setIfInBounds_toArray, List.set_cons_zero, List.set_cons_succ, i64_w, i32_w]; rfl
    refine pure_ (i := 8) (N := some 14) (v := ?_) (a' := ?_) #[true, true, true, true, true, true, true, true, true, false, false, false, false, false, false, false, false, false, false, false, false, false, false, false] rfl rfl (any_of HT_.out (by kernel_rfl)) (fun _ _ _ h => h) (Or.inl ⟨by rfl, ?_⟩) ?_ ?_
    rotate_left
    · intro w'; go_simp; with_reducible rfl
    rotate_left
    · simp only [Act.put, List.setIfInBounds_toArray, List.set_cons_zero, List.set_cons_succ, i64_w, i32_w]; rfl
    refine take_ (i := 9) (N := some 15) (v := ?_) (a' := ?_) #[true, true, true, true, true, true, true, true, true, true, false, false, false, false, false, false, false, false, false, false, false, false, false, false] rfl rfl (take_ofW HT_.out HW_.out (by kernel_rfl)) (fun _ _ _ h => h) (Or.inl ⟨by rfl, ?_⟩) hHeld ?_ ?_
    rotate_left
    · rintro w' ⟨s0, s1, s2, s3, s4, s5⟩; go_simp; with_reducible rfl
    rotate_left
    · simp only [Act.put, List.setIfInBounds_toArray, List.set_cons_zero, List.set_cons_succ, i64_w, i32_w]; rfl
    refine pure_ (i := 10) (N := some 16) (v := ?_) (a' := ?_) #[true, true, true, true, true, true, true, true, true, true, true, false, false, false, false, false, false, false, false, false, false, false, false, false] rfl rfl (any_of HT_.out (by kernel_rfl)) (fun _ _ _ h => h) (Or.inl ⟨by rfl, ?_⟩) ?_ ?_
    rotate_left
    · intro w'; go_simp; with_reducible rfl
    rotate_left
    · simp only [Act.put, List.setIfInBounds_toArray, List.set_cons_zero, List.set_cons_succ, i64_w, i32_w]; rfl
    refine pure_ (i := 11) (N := some 17) (v := ?_) (a' := ?_) #[true, true, true, true, true, true, true, true, true, true, true, true, false, false, false, false, false, false, false, false, false, false, false, false] rfl rfl (any_of HT_.out (by kernel_rfl)) (fun _ _ _ h => h) (Or.inl ⟨by rfl, ?_⟩) ?_ ?_
    rotate_left
    · intro w'; go_simp; with_reducible rfl
    rotate_left
    · simp only [Act.put, List.setIfInBounds_toArray, List.set_cons_zero, List.set_cons_succ, i64_w, i32_w]; rfl
    refine take_ (i := 12) (N := some 18) (v := ?_) (a' := ?_) #[true, true, true, true, true, true, true, true, true, true, true, true, true, false, false, false, false, false, false, false, false, false, false, false] rfl rfl (take_ofW HT_.out HW_.out (by kernel_rfl)) (fun _ _ _ h => h) (Or.inl ⟨by rfl, ?_⟩) hHeld ?_ ?_
    rotate_left
    · rintro w' ⟨s0, s1, s2, s3, s4, s5⟩; go_simp; with_reducible rfl
    rotate_left
    · simp only [Act.put, List.setIfInBounds_toArray, List.set_cons_zero, List.set_cons_succ, i64_w, i32_w]; rfl
    refine pure_ (i := 13) (N := some 19) (v := ?_) (a' := ?_) #[true, true, true, true, true, true, true, true, true, true, true, true, true, true, false, false, false, false, false, false, false, false, false, false] rfl rfl (any_of HT_.out (by kernel_rfl)) (fun _ _ _ h => h) (Or.inl ⟨by rfl, ?_⟩) ?_ ?_
    rotate_left
    · intro w'; go_simp; with_reducible rfl
    rotate_left
    · simp only [Act.put, List.setIfInBounds_toArray, List.set_cons_zero, List.set_cons_succ, i64_w, i32_w]; rfl
    refine take_ (i := 16) (N := some 22) (v := ?_) (a' := ?_) #[true, true, true, true, true, true, true, true, true, true, true, true, true, true, false, false, true, false, false, false, false, false, false, false] rfl rfl (take_ofW HT_.out HW_.out (by kernel_rfl)) (fun _ _ _ h => h) (Or.inl ⟨by rfl, ?_⟩) hHeld ?_ ?_
    rotate_left
    · rintro w' ⟨s0, s1, s2, s3, s4, s5⟩; go_simp; with_reducible rfl
    rotate_left
    · simp only [Act.put, List.setIfInBounds_toArray, List.set_cons_zero, List.set_cons_succ, i64_w, i32_w]; rfl
    refine pure_ (i := 17) (N := some 23) (v := ?_) (a' := ?_) #[true, true, true, true, true, true, true, true, true, true, true, true, true, true, false, false, true, true, false, false, false, false, false, false] rfl rfl (any_of HT_.out (by kernel_rfl)) (fun _ _ _ h => h) (Or.inl ⟨by rfl, ?_⟩) ?_ ?_
    rotate_left
    · intro w'; go_simp; with_reducible rfl
    rotate_left
    · simp only [Act.put, List.setIfInBounds_toArray, List.set_cons_zero, List.set_cons_succ, i64_w, i32_w]; rfl
    refine pure_ (i := 18) (N := some 24) (v := ?_) (a' := ?_) #[true, true, true, true, true, true, true, true, true, true, true, true, true, true, false, false, true, true, true, false, false, false, false, false] rfl rfl (any_of HT_.out (by kernel_rfl)) (fun _ _ _ h => h) (Or.inl ⟨by rfl, ?_⟩) ?_ ?_
    rotate_left
    · intro w'; go_simp; with_reducible rfl
    rotate_left
    · simp only [Act.put, List.setIfInBounds_toArray, List.set_cons_zero, List.set_cons_succ, i64_w, i32_w]; rfl
    refine take_ (i := 19) (N := some 25) (v := ?_) (a' := ?_) #[true, true, true, true, true, true, true, true, true, true, true, true, true, true, false, false, true, true, true, true, false, false, false, false] rfl rfl (take_ofW HT_.out HW_.out (by kernel_rfl)) (fun _ _ _ h => h) (Or.inl ⟨by rfl, ?_⟩) hHeld ?_ ?_
    rotate_left
    · rintro w' ⟨s0, s1, s2, s3, s4, s5⟩; go_simp; with_reducible rfl
    rotate_left
    · simp only [Act.put, List.setIfInBounds_toArray, List.set_cons_zero, List.set_cons_succ, i64_w, i32_w]; rfl
    refine pure_ (i := 20) (N := some 26) (v := ?_) (a' := ?_) #[true, true, true, true, true, true, true, true, true, true, true, true, true, true, false, false, true, true, true, true, true, false, false, false] rfl rfl (any_of HT_.out (by kernel_rfl)) (fun _ _ _ h => h) (Or.inl ⟨by rfl, ?_⟩) ?_ ?_
    rotate_left
    · intro w'; go_simp; with_reducible rfl
    rotate_left
    · simp only [Act.put, List.setIfInBounds_toArray, List.set_cons_zero, List.set_cons_succ, i64_w, i32_w]; rfl
    refine one_ (i := 14) (N := some 20) #[true, true, true, true, true, true, true, true, true, true, true, true, true, true, true, false, true, true, true, true, true, false, false, false] rfl rfl (one_of HT_.out (by kernel_rfl)) (by decide) (fun K hK => ?_)
    refine goes_ Try.func62 (by kernel_rfl) rfl #[.pointer (some ⟨g, 0, none⟩), .func (.func 63) #[] #[.pointer (some ⟨gG, 0, none⟩), .pointer (some ⟨gA, 0, none⟩), .pointer (some ⟨gC, 0, none⟩)]] (by rfl) rfl rfl (by (try simp only [List.map_toArray, List.map_cons, List.map_nil]); first | done | rfl) ?_
    refine (all_calls g U N v _ HLg.out.small HV2.out 63 _ _ Try.func63 (by kernel_rfl) rfl (fun b : Nat => modT U a b c) (fun b hb W hW => ?_)).mono ?_
    · exact mod_c2 g U N v W HLg.out (HV2.out.below hW) gG gA gC a b c Ia.out ⟨by omega, by omega⟩ Ic.out (blk_below HG2.out hW) (blk_below HXA2.out hW) (blk_below HXC.out hW)
    rintro e w4 ⟨vo, rfl, ho, hb⟩
    obtain ⟨Ao, co, rfl⟩ := Kd.R_slice ho
    refine ⟨_, rfl, ?_⟩
    refine hK.out _ _ ⟨(blk_cell (blk_below HG2.out hb) 0).trans rfl, (blk_cell (blk_below HXA2.out hb) 0).trans rfl, (blk_cell (blk_below HXC.out hb) 0).trans rfl, (HV2.out.below hb).f0, (HV2.out.below hb).u a Ia.out, hcell_ (HV2.out.below hb)⟩ (fun hHeld4 => ?_)
    have HB4 := Aside0.mk (below_step HB3.out hb)
    clear hK K ho hb
    (try simp only [Act.put, List.setIfInBounds_toArray, List.set_cons_zero, List.set_cons_succ])
    refine pure_ (i := 15) (N := some 21) (v := ?_) (a' := ?_) #[true, true, true, true, true, true, true, true, true, true, true, true, true, true, true, true, true, true, true, true, true, false, false, false] rfl rfl (any_of HT_.out (by kernel_rfl)) (fun _ _ _ h => h) (Or.inl ⟨by rfl, ?_⟩) ?_ ?_
    rotate_left
    · intro w'; go_simp; with_reducible rfl
    rotate_left
    · simp only [Act.put, List.setIfInBounds_toArray, List.set_cons_zero, List.set_cons_succ, i64_w, i32_w]; rfl
    refine pure_ (i := 21) (N := some 27) (v := ?_) (a' := ?_) #[true, true, true, true, true, true, true, true, true, true, true, true, true, true, true, true, true, true, true, true, true, true, false, false] rfl rfl (any_of HT_.out (by kernel_rfl)) (fun _ _ _ h => h) (Or.inl ⟨by rfl, ?_⟩) ?_ ?_
    rotate_left
    · intro w'; go_simp; with_reducible rfl
    rotate_left
    · simp only [Act.put, List.setIfInBounds_toArray, List.set_cons_zero, List.set_cons_succ, i64_w, i32_w]; rfl
    refine pure_ (i := 22) (N := some 28) (v := ?_) (a' := ?_) #[true, true, true, true, true, true, true, true, true, true, true, true, true, true, true, true, true, true, true, true, true, true, true, false] rfl rfl (any_of HT_.out (by kernel_rfl)) (fun _ _ _ h => h) (Or.inl ⟨by rfl, ?_⟩) ?_ ?_
    rotate_left
    · intro w'; go_simp; with_reducible rfl
    rotate_left
    · simp only [Act.put, List.setIfInBounds_toArray, List.set_cons_zero, List.set_cons_succ, i64_w, i32_w]; rfl
    refine pure_ (i := 23) (N := some 5) (v := ?_) (a' := ?_) #[true, true, true, true, true, true, true, true, true, true, true, true, true, true, true, true, true, true, true, true, true, true, true, true] rfl rfl (any_of HT_.out (by kernel_rfl)) (fun _ _ _ h => h) (Or.inl ⟨by rfl, ?_⟩) ?_ ?_
    rotate_left
    · intro w'; go_simp; with_reducible rfl
    rotate_left
    · simp only [Act.put, List.setIfInBounds_toArray, List.set_cons_zero, List.set_cons_succ, i64_w, i32_w]; rfl
    refine done_ (done_of HT_.out (by kernel_rfl)) ?_
    go_wp2
    go_ret
    refine ⟨?_, by repeat (first | exact HB4.out | apply pw_below_drewN | apply below_drew1)⟩
    show Ending.returned (Value.bool (((filI U.length fun b => modT U a (b : Int) c).length : Int) == (U.length : Int))) = _
    rw [natcast_beq]
    rfl
def impl_ModularOk.f (l0_0 : List (List Int)) (l0_1 : List Int) : Option (Bool) := some (if logicB l0_0 l0_1 = true then modB l0_0 else false)
set_option maxHeartbeats 4000000 in
set_option maxRecDepth 100000 in
theorem impl_ModularOk.calls (A0_0 : Option Addr) (c0_0 : Nat) (l0_0 : List (List Int)) (A0_1 : Option Addr) (c0_1 : Nat) (l0_1 : List Int) (r : Bool) (w : World) (hr0_0 : Kd.C (Kd.slice 3 (Kd.int .i64)) w A0_0 l0_0.length l0_0) (hc0_0 : l0_0.length ≤ c0_0) (hr0_1 : Kd.C (Kd.int .i64) w A0_1 l0_1.length l0_1) (hc0_1 : l0_1.length ≤ c0_1) (h : impl_ModularOk.f l0_0 l0_1 = some r) :
    Calls Try.prog 29 #[.agg #[.slice A0_0 l0_0.length c0_0, .slice A0_1 l0_1.length c0_1]] w fun e w' => e = .returned (.bool r) ∧ Below w.heap.size w w' := by
  obtain ⟨k, hF⟩ := told_facts l0_0
  have hu30 := Try.underlying29
  have hu70 := Try.underlying57
  have HF := Aside0.mk hF
  have HR0 := Aside0.mk hr0_0
  have HC0 := Aside0.mk hc0_0
  have HR1 := Aside0.mk hr0_1
  have HC1 := Aside0.mk hc0_1
  simp only [impl_ModularOk.f, Option.some.injEq] at h
  clear hr0_0 hc0_0 hr0_1 hc0_1 hF
  cases hL : logicB l0_0 l0_1 with
  | false =>
    rw [hL] at h
    have hr_ : false = r := by simpa using h
    subst hr_
    have HLB := Aside0.mk hL
    clear h hL
    go_enter Try.func29, Try.ntmps29
    go_wp2_with (first | ((with_reducible refine gate_dst (N := 1) rfl ?_); refine box_event ?hg (N := 1) ?hd (cs := #[.slice A0_0 l0_0.length c0_0, .slice A0_1 l0_1.length c0_1]) (t := 29) ?hr ?_; (case hd => rfl); (case hg => rfl); (case hr => first | (go_simp; done) | (go_simp; rfl)); intro gb hg_ w1 hbox hb; have HB := Aside0.mk hb; have hx0 : w1.cell? ⟨gb, 0, none⟩ = some (.slice A0_0 l0_0.length c0_0) := (blk_cell hbox 0).trans rfl; have hx1 : w1.cell? ⟨gb, 1, none⟩ = some (.slice A0_1 l0_1.length c0_1) := (blk_cell hbox 1).trans rfl; have HX := Aside0.mk hbox; clear hbox hb hg_) | (go_at_call 55; (with_reducible refine (told_n k _ _ l0_0 _ _ l0_1 _ ?s1 ?s2 ?s3 ?s4 HF.out HLB.out).mono ?_); (case s1 => exact Kd.C_below HR0.out HB.out); (case s2 => exact HC0.out); (case s3 => exact Kd.C_below HR1.out HB.out); (case s4 => exact HC1.out); rintro e w2 ⟨rfl, hb⟩; have HB2 := Aside0.mk (below_step HB.out hb); clear hb hx0 hx1 HX HB))
    go_ret
    exact ⟨rfl, by repeat (first | exact HB2.out | apply below_alloc | apply pw_below_drewN | apply below_drew1)⟩
  | true =>
    rw [hL] at h
    have hr_ : modB l0_0 = r := by simpa using h
    subst hr_
    have HLB := Aside0.mk hL
    have HLg := Aside0.mk (logicB_iff.1 hL)
    clear h hL
    go_enter Try.func29, Try.ntmps29
    go_wp2_with (first | ((with_reducible refine gate_dst (N := 1) rfl ?_); refine box_event ?hg (N := 1) ?hd (cs := #[.slice A0_0 l0_0.length c0_0, .slice A0_1 l0_1.length c0_1]) (t := 29) ?hr ?_; (case hd => rfl); (case hg => rfl); (case hr => first | (go_simp; done) | (go_simp; rfl)); intro gb hg_ w1 hbox hb; have HB := Aside0.mk hb; have hx0 : w1.cell? ⟨gb, 0, none⟩ = some (.slice A0_0 l0_0.length c0_0) := (blk_cell hbox 0).trans rfl; have hx1 : w1.cell? ⟨gb, 1, none⟩ = some (.slice A0_1 l0_1.length c0_1) := (blk_cell hbox 1).trans rfl; have HX := Aside0.mk hbox; clear hbox hb hg_) | (go_at_call 55; (with_reducible refine (told_y k _ _ l0_0 _ _ l0_1 _ ?s1 ?s2 ?s3 ?s4 HF.out HLB.out).mono ?_); (case s1 => exact Kd.C_below HR0.out HB.out); (case s2 => exact HC0.out); (case s3 => exact Kd.C_below HR1.out HB.out); (case s4 => exact HC1.out); rintro e w2 ⟨g, v, rfl, hv, hge, hb⟩; have HB2 := Aside0.mk (below_step HB.out hb); have HV := Aside0.mk hv; clear hv hge hb hx0 hx1 HX HB) | (go_at_call 60; (with_reducible refine (every_pure g l0_0 l0_1 v _ HLg.out.small ?sV 61 _ #[.pointer (some ⟨w2.heap.size, 0, none⟩)] Try.func61 (by kernel_rfl) rfl (fun a c => !leI l0_0 a c || allN l0_0.length fun b => modT l0_0 a b c) ?sT).mono ?_); (case sV => exact HV.out.below (below_alloc (Below.refl _ _) _)); (case sT => exact fun a c ha hc W hW => mod_c1 g l0_0 l0_1 v W HLg.out ((HV.out.below (below_alloc (Below.refl _ _) _)).below hW) w2.heap.size a c ⟨by omega, by omega⟩ ⟨by omega, by omega⟩ (blk_below (MapKept.heap_alloc w2 _).1 hW)); rintro e w3 ⟨rfl, hb⟩; have HB3 := Aside0.mk (below_step (below_step HB2.out (below_alloc (Below.refl _ _) _)) hb); clear hb))
    go_ret
    exact ⟨rfl, by repeat (first | exact HB3.out | apply pw_below_drewN | apply below_drew1)⟩
end Go.Proofs.Ytjoadckkdophnaa.Print
end
section
namespace Go.Proofs.Ytjoadckkdophnaa.Print
open Go.RowKit Go.Proofs.YtjoadckkdophnaaW.PrintWords Go.Proofs.YtjoadckkdophnaaW.PrintLast Go.Proofs.YtjoadckkdophnaaW.PrintMore
attribute [local go_sem] max2_int min2_int max_two min_two max_three min_three max_four min_four   -- for this text's walks alone
set_option linter.unusedVariables false
set_option linter.unusedSimpArgs false
def spec_ModularOk.l0 : Nat → Int → Int → List (List Int) → List Int → Option (Bool)
  | 0, _, _, _, _ => none
  | k + 1, x3, x4, x386000, x386001 => if x4 < (wrap64 ((wrap64 (x3 * x3)) * x3)) then (if x3 = 0 then (none) else (if 0 ≤ (wrap64 (Int.tdiv (wrap64 (Int.tdiv x4 x3)) x3)) then (if (wrap64 (Int.tdiv (wrap64 (Int.tdiv x4 x3)) x3)) < (x386000.length : Int) then (if 0 ≤ (Int.tmod x4 x3) then (if (Int.tmod x4 x3) < ((rd_L1 x386000 (wrap64 (Int.tdiv (wrap64 (Int.tdiv x4 x3)) x3))).length : Int) then (if (rd (rd_L1 x386000 (wrap64 (Int.tdiv (wrap64 (Int.tdiv x4 x3)) x3))) (Int.tmod x4 x3)) = 1 then ((spec_l1Meet.f k x386000 (Int.tmod (wrap64 (Int.tdiv x4 x3)) x3) (Int.tmod x4 x3)).bind fun t389 => ((spec_l1Join.f k x386000 (wrap64 (Int.tdiv (wrap64 (Int.tdiv x4 x3)) x3)) t389).bind fun t390 => ((spec_l1Join.f k x386000 (wrap64 (Int.tdiv (wrap64 (Int.tdiv x4 x3)) x3)) (Int.tmod (wrap64 (Int.tdiv x4 x3)) x3)).bind fun t391 => ((spec_l1Meet.f k x386000 t391 (Int.tmod x4 x3)).bind fun t392 => (if t390 = t392 then (spec_ModularOk.l0 k x3 (wrap64 (x4 + 1)) x386000 x386001) else (some false)))))) else (spec_ModularOk.l0 k x3 (wrap64 (x4 + 1)) x386000 x386001)) else (none)) else (none)) else (none)) else (none))) else (some true)
def spec_ModularOk.f (k : Nat) (l0_0 : List (List Int)) (l0_1 : List Int) : Option (Bool) := (spec_LogicOk.f k l0_0 l0_1).bind fun t386 => (if t386 = true then (spec_ModularOk.l0 k (l0_1.length : Int) 0 l0_0 l0_1) else (some false))
def spec_ModularOk.T10 : Bool × List (List Nat × List Nat) := (true, [([], []), ([0], [0]), ([], []), ([1, 2], [1, 2]), ([3], [3]), ([], []), ([4, 5], [4, 5]), ([6], [6]), ([7], [7]), ([8], [8]), ([9], [9]), ([10, 9], [9, 10]), ([9], [9]), ([9], [9]), ([13, 9], [9, 13]), ([9], [9]), ([9], [9]), ([14, 15, 16, 9, 9], [9, 14, 15, 16]), ([11, 12, 17, 17, 9], [9, 11, 12, 17]), ([9], [9]), ([19, 9], [9, 19]), ([9], [9]), ([21, 9], [9, 21]), ([9], [9]), ([9], [9]), ([22, 23, 24, 18, 9], [9, 22, 23, 24]), ([9], [9]), ([20, 25, 26, 25, 9], [9, 20, 25, 26]), ([18, 27, 9], [9, 18, 27]), ([9, 28], [9, 28])])
def spec_ModularOk.B10 : List Nat := [0, 1, 0, 7, 15, 0, 63, 127, 255, 511, 1023, 2047, 1023, 1023, 9215, 1023, 1023, 123903, 262143, 1023, 525311, 1023, 2098175, 1023, 1023, 31981567, 1023, 134217727, 268435455, 536870911]
theorem spec_ModularOk.tab10 : rtab .any (opsOf Try.f28 10) = spec_ModularOk.T10 := by kernel_rfl
theorem spec_ModularOk.bits10 : waitsOk spec_ModularOk.T10.2 spec_ModularOk.B10 = true := by kernel_rfl
set_option maxHeartbeats 8000000 in
set_option maxRecDepth 100000 in
theorem spec_ModularOk.calls (k : Nat) (A0_0 : Option Addr) (c0_0 : Nat) (l0_0 : List (List Int)) (A0_1 : Option Addr) (c0_1 : Nat) (l0_1 : List Int) (r : Bool) (w : World) (hr0_0 : Kd.C (Kd.slice 3 (Kd.int .i64)) w A0_0 l0_0.length l0_0) (hc0_0 : l0_0.length ≤ c0_0) (hr0_1 : Kd.C (Kd.int .i64) w A0_1 l0_1.length l0_1) (hc0_1 : l0_1.length ≤ c0_1) (h : spec_ModularOk.f k l0_0 l0_1 = some r) :
    Calls Try.prog 28 #[.agg #[.slice A0_0 l0_0.length c0_0, .slice A0_1 l0_1.length c0_1]] w fun e w' => e = .returned (.bool r) ∧ Below w.heap.size w w' := by
  have hu29 := Try.underlying29
  have HR0_0 := Aside0.mk hr0_0
  have HC0_0 := Aside0.mk hc0_0
  clear hr0_0 hc0_0
  have HR0_1 := Aside0.mk hr0_1
  have HC0_1 := Aside0.mk hc0_1
  clear hr0_1 hc0_1
  have HB := Aside0.mk (Below.refl w.heap.size w)
  have H : ((spec_LogicOk.f k l0_0 l0_1).bind fun t386 => (if t386 = true then (spec_ModularOk.l0 k (l0_1.length : Int) 0 l0_0 l0_1) else (some false))) = some r := h
  clear h
  replace H := Option.bind_eq_some_iff.mp H
  obtain ⟨t386, A20, H⟩ := H
  replace H : (if t386 = true then (spec_ModularOk.l0 k (l0_1.length : Int) 0 l0_0 l0_1) else (some false)) = some r := H
  have A2 := Aside0.mk A20
  clear A20
  by_cases c3 : t386 = true
  · subst c3
    have H1 : (spec_ModularOk.l0 k (l0_1.length : Int) 0 l0_0 l0_1) = some r := by rw [if_pos rfl] at H; exact H
    clear H
    have H := H1
    clear H1
    have H' := Aside0.mk H
    clear H
    go_enter Try.func28, Try.ntmps28
    go_wp2_with (first | ((with_reducible refine gate_dst (N := 1) rfl ?_); refine box_event ?hg (N := 1) ?hd (cs := #[.slice A0_0 l0_0.length c0_0, .slice A0_1 l0_1.length c0_1]) (t := 29) ?hr ?_; (case hd => rfl); (case hg => rfl); (case hr => first | (go_simp; done) | (go_simp; rfl)); intro gb385 hg w4 hbox hb; have n0_ := Aside0.mk (below_step (by repeat (first | (with_reducible first | exact HB.out | apply below_alloc | apply pw_below_drewN | apply below_drew1) | exact HB.out)) hb); have n1_ := Aside0.mk (hbox); have n2_ := Aside0.mk ((by rw [hg]; exact (below_size (by repeat (first | (with_reducible first | exact HB.out | apply below_alloc | apply pw_below_drewN | apply below_drew1) | exact HB.out))) : w.heap.size ≤ gb385)); have n3_ := Aside0.mk ((by rw [hg]; exact (below_size (by repeat (first | (with_reducible first | exact HB.out | apply below_alloc | apply pw_below_drewN | apply below_drew1) | exact HB.out))) : w.heap.size ≤ gb385)); clear HB; have HB := n0_; have BK385 := n1_; have GW385 := n2_; have GE385 := n3_; clear n0_ n1_ n2_ n3_; clear hb hbox hg; have hcz5_0 : w4.cell? ⟨gb385, 0, none⟩ = some (.slice A0_0 l0_0.length c0_0) := (blk_cell BK385.out 0).trans rfl; have hcz5_1 : w4.cell? ⟨gb385, 1, none⟩ = some (.slice A0_1 l0_1.length c0_1) := (blk_cell BK385.out 1).trans rfl; have hfz5_0 := blk_frozen BK385.out 0; have hfz5_1 := blk_frozen BK385.out 1) | ((with_reducible refine gate_callee (f := 59) rfl ?_); refine goesL_ (some 12) rfl rfl Try.func59 (by kernel_rfl) rfl #[.agg #[.slice A0_0 l0_0.length c0_0, .slice A0_1 l0_1.length c0_1]] rfl (by (try simp only [List.map_toArray, List.map_cons, List.map_nil]); first | done | rfl | (simp only [List.length_drop, List.length_take]; rfl)) ?_; (with_reducible refine (spec_LogicOk.calls k _ _ l0_0 _ _ l0_1 true _ ?side1 ?side2 ?side3 ?side4 A2.out).mono ?_); (case side1 => repeat (first | exact (Kd.C_below HR0_0.out HB.out) | (with_reducible refine Kd.C_alloc ?_ _) | (with_reducible refine Kd.C_drewN ?_ _) | (with_reducible refine Kd.C_drew ?_))); (case side2 => exact HC0_0.out); (case side3 => repeat (first | exact (Kd.C_below HR0_1.out HB.out) | (with_reducible refine Kd.C_alloc ?_ _) | (with_reducible refine Kd.C_drewN ?_ _) | (with_reducible refine Kd.C_drew ?_))); (case side4 => exact HC0_1.out); rintro e w6 ⟨rfl, hb⟩; refine ⟨_, rfl, ?_⟩; have n0_ := Aside0.mk (blk_below (g := gb385) (o := .cells #[.slice A0_0 l0_0.length c0_0, .slice A0_1 l0_1.length c0_1] 29 (0, 0)) (by (with_reducible repeat (first | refine blk_drewN ?_ _ | refine blk_drew ?_ | refine blk_alloc ?_ _)); exact BK385.out) hb); have n1_ := Aside0.mk (below_step (by repeat (first | (with_reducible first | exact HB.out | apply below_alloc | apply pw_below_drewN | apply below_drew1 | refine below_set ?_ GE385.out) | exact HB.out)) hb); clear BK385; clear HB; have BK385 := n0_; have HB := n1_; clear n0_ n1_; (try clear hb); (try clear hb2); (try clear hk); (try clear hi)))
    go_loopg [4] k (fun kq v4 w' => ∃ (x4_1 : Int), v4 = .int .i64 x4_1 ∧ Aside0 (spec_ModularOk.l0 kq (l0_1.length : Int) x4_1 l0_0 l0_1 = some r) ∧ Aside0 (kq ≤ k) ∧ Aside0 (w'.heap[gb385]? = some (.cells #[(.slice A0_0 l0_0.length c0_0), (.slice A0_1 l0_1.length c0_1)] 29 (0, 0))) ∧ Aside0 (Below w.heap.size w w'))
    case atStart => exact ⟨(0), (by first | rfl | (simp; done) | (simp [*]; done)), H', ⟨Nat.le_refl _⟩, ⟨by (with_reducible repeat (first | refine blk_drewN ?_ _ | refine blk_drew ?_ | refine blk_alloc ?_ _)); exact BK385.out⟩, ⟨by repeat (first | (with_reducible first | exact HB.out | apply below_alloc | apply pw_below_drewN | apply below_drew1 | refine below_set ?_ GE385.out) | exact HB.out)⟩⟩
    case round =>
      clear H'
      try clear c2
      try clear p2
      try clear c3
      try clear c5
      try clear hcz5_0
      try clear hcz5_1
      try clear hfz5_0
      try clear hfz5_1
      obtain ⟨x4_1, rfl, HA, HK1, BK385, HB⟩ := hrel
      cases gk with
      | zero => exact absurd HA.out (by simp [spec_ModularOk.l0])
      | succ k1 =>
        have H := HA.out
        clear HA
        simp only [spec_ModularOk.l0] at H
        by_cases c7 : x4_1 < (wrap64 ((wrap64 ((l0_1.length : Int) * (l0_1.length : Int))) * (l0_1.length : Int)))
        · rw [if_pos c7] at H
          have c7b0 : decide (x4_1 < (wrap64 ((wrap64 ((l0_1.length : Int) * (l0_1.length : Int))) * (l0_1.length : Int)))) = true := decide_eq_true c7
          clear c7
          by_cases c8 : (l0_1.length : Int) = 0
          · rw [if_pos c8] at H
            exact absurd H (by simp)
          · rw [if_neg c8] at H
            have c8b0 : ((l0_1.length : Int) == 0) = false := beq_eq_false_iff_ne.mpr c8
            have c8b1 : ((l0_1.length : Int) != 0) = true := bne_iff_ne.mpr c8
            have c8b2 : ¬ (l0_1 = []) := fun h_ => c8 (by rw [h_]; rfl)
            obtain ⟨ji9, hji9⟩ : ∃ j_ : Int, (wrap64 (Int.tdiv (wrap64 (Int.tdiv x4_1 (l0_1.length : Int))) (l0_1.length : Int))) = j_ := ⟨_, rfl⟩
            replace H : (if 0 ≤ (ji9) then (if (ji9) < (l0_0.length : Int) then (if 0 ≤ (Int.tmod x4_1 (l0_1.length : Int)) then (if (Int.tmod x4_1 (l0_1.length : Int)) < ((rd_L1 l0_0 (ji9)).length : Int) then (if (rd (rd_L1 l0_0 (ji9)) (Int.tmod x4_1 (l0_1.length : Int))) = 1 then ((spec_l1Meet.f k1 l0_0 (Int.tmod (wrap64 (Int.tdiv x4_1 (l0_1.length : Int))) (l0_1.length : Int)) (Int.tmod x4_1 (l0_1.length : Int))).bind fun t389 => ((spec_l1Join.f k1 l0_0 (ji9) t389).bind fun t390 => ((spec_l1Join.f k1 l0_0 (ji9) (Int.tmod (wrap64 (Int.tdiv x4_1 (l0_1.length : Int))) (l0_1.length : Int))).bind fun t391 => ((spec_l1Meet.f k1 l0_0 t391 (Int.tmod x4_1 (l0_1.length : Int))).bind fun t392 => (if t390 = t392 then (spec_ModularOk.l0 k1 (l0_1.length : Int) (wrap64 (x4_1 + 1)) l0_0 l0_1) else (some false)))))) else (spec_ModularOk.l0 k1 (l0_1.length : Int) (wrap64 (x4_1 + 1)) l0_0 l0_1)) else (none)) else (none)) else (none)) else (none)) = some r := by first | (rw [hji9] at H; exact H) | (simp only [hji9] at H ⊢; exact H)
            have hji9w : (IntKind.i64.wrap (Int.tdiv (wrap64 (Int.tdiv x4_1 (l0_1.length : Int))) (l0_1.length : Int))) = ji9 := (i64_w _).trans hji9
            by_cases c10 : 0 ≤ (ji9)
            · rw [if_pos c10] at H
              have c10b0 : decide (0 ≤ (ji9)) = true := decide_eq_true c10
              clear c10
              by_cases c11 : (ji9) < (l0_0.length : Int)
              · rw [if_pos c11] at H
                have c11b0 : decide ((ji9) < (l0_0.length : Int)) = true := decide_eq_true c11
                clear c11
                obtain ⟨ji12, hji12⟩ : ∃ j_ : Int, (Int.tmod x4_1 (l0_1.length : Int)) = j_ := ⟨_, rfl⟩
                replace H : (if 0 ≤ (ji12) then (if (ji12) < ((rd_L1 l0_0 (ji9)).length : Int) then (if (rd (rd_L1 l0_0 (ji9)) (ji12)) = 1 then ((spec_l1Meet.f k1 l0_0 (Int.tmod (wrap64 (Int.tdiv x4_1 (l0_1.length : Int))) (l0_1.length : Int)) (ji12)).bind fun t389 => ((spec_l1Join.f k1 l0_0 (ji9) t389).bind fun t390 => ((spec_l1Join.f k1 l0_0 (ji9) (Int.tmod (wrap64 (Int.tdiv x4_1 (l0_1.length : Int))) (l0_1.length : Int))).bind fun t391 => ((spec_l1Meet.f k1 l0_0 t391 (ji12)).bind fun t392 => (if t390 = t392 then (spec_ModularOk.l0 k1 (l0_1.length : Int) (wrap64 (x4_1 + 1)) l0_0 l0_1) else (some false)))))) else (spec_ModularOk.l0 k1 (l0_1.length : Int) (wrap64 (x4_1 + 1)) l0_0 l0_1)) else (none)) else (none)) = some r := by first | (rw [hji12] at H; exact H) | (simp only [hji12] at H ⊢; exact H)
                by_cases c13 : 0 ≤ (ji12)
                · rw [if_pos c13] at H
                  have c13b0 : decide (0 ≤ (ji12)) = true := decide_eq_true c13
                  clear c13
                  by_cases c14 : (ji12) < ((rd_L1 l0_0 (ji9)).length : Int)
                  · rw [if_pos c14] at H
                    have c14b0 : decide ((ji12) < ((rd_L1 l0_0 (ji9)).length : Int)) = true := decide_eq_true c14
                    clear c14
                    by_cases c15 : (rd (rd_L1 l0_0 (ji9)) (ji12)) = 1
                    · rw [if_pos c15] at H
                      have c15b0 : ((rd (rd_L1 l0_0 (ji9)) (ji12)) == 1) = true := beq_iff_eq.mpr c15
                      have c15b1 : ((rd (rd_L1 l0_0 (ji9)) (ji12)) != 1) = false := bne_eq_false_iff_eq.mpr c15
                      clear c15
                      replace H := Option.bind_eq_some_iff.mp H
                      obtain ⟨t389, A160, H⟩ := H
                      replace H : ((spec_l1Join.f k1 l0_0 (ji9) t389).bind fun t390 => ((spec_l1Join.f k1 l0_0 (ji9) (Int.tmod (wrap64 (Int.tdiv x4_1 (l0_1.length : Int))) (l0_1.length : Int))).bind fun t391 => ((spec_l1Meet.f k1 l0_0 t391 (ji12)).bind fun t392 => (if t390 = t392 then (spec_ModularOk.l0 k1 (l0_1.length : Int) (wrap64 (x4_1 + 1)) l0_0 l0_1) else (some false))))) = some r := H
                      have A16 := Aside0.mk A160
                      clear A160
                      replace H := Option.bind_eq_some_iff.mp H
                      obtain ⟨t390, A170, H⟩ := H
                      replace H : ((spec_l1Join.f k1 l0_0 (ji9) (Int.tmod (wrap64 (Int.tdiv x4_1 (l0_1.length : Int))) (l0_1.length : Int))).bind fun t391 => ((spec_l1Meet.f k1 l0_0 t391 (ji12)).bind fun t392 => (if t390 = t392 then (spec_ModularOk.l0 k1 (l0_1.length : Int) (wrap64 (x4_1 + 1)) l0_0 l0_1) else (some false)))) = some r := H
                      have A17 := Aside0.mk A170
                      clear A170
                      replace H := Option.bind_eq_some_iff.mp H
                      obtain ⟨t391, A180, H⟩ := H
                      replace H : ((spec_l1Meet.f k1 l0_0 t391 (ji12)).bind fun t392 => (if t390 = t392 then (spec_ModularOk.l0 k1 (l0_1.length : Int) (wrap64 (x4_1 + 1)) l0_0 l0_1) else (some false))) = some r := H
                      have A18 := Aside0.mk A180
                      clear A180
                      replace H := Option.bind_eq_some_iff.mp H
                      obtain ⟨t392, A190, H⟩ := H
                      replace H : (if t390 = t392 then (spec_ModularOk.l0 k1 (l0_1.length : Int) (wrap64 (x4_1 + 1)) l0_0 l0_1) else (some false)) = some r := H
                      have A19 := Aside0.mk A190
                      clear A190
                      by_cases c20 : t390 = t392
                      · rw [if_pos c20] at H
                        have c20b0 : (t390 == t392) = true := beq_iff_eq.mpr c20
                        have c20b1 : (t390 != t392) = false := bne_eq_false_iff_eq.mpr c20
                        clear c20
                        have H' := Aside0.mk H
                        clear H
                        try go_wp2
                        have n0_ := Aside0.mk (blk_drew BK385.out)
                        have n1_ := Aside0.mk (below_drew1 HB.out)
                        clear BK385
                        clear HB
                        have BK385 := n0_
                        have HB := n1_
                        clear n0_ n1_
                        have p387 : 0 ≤ ((ji9) : Int) := of_decide_eq_true (by first | (with_reducible assumption) | assumption)
                        have q387 : (ji9) < (l0_0.length : Int) := of_decide_eq_true (by first | (with_reducible assumption) | assumption)
                        obtain ⟨ad387, A387_0, c387_0, e387, hx387_0, hl387_0, hi387_0⟩ := at_L1 HR0_0.out (ji9) p387 q387
                        have hw387_0 := hx387_0
                        cases e387
                        replace hx387_0 := (HB.out.cell (World.block_lt_of_cell? w _ hx387_0)).trans hx387_0
                        have HR387_0 := Aside0.mk hi387_0
                        have HC387_0 := Aside0.mk hl387_0
                        clear hi387_0 hl387_0
                        replace p387 := eq_true p387
                        replace q387 := eq_true q387
                        have p388 : 0 ≤ ((ji12) : Int) := of_decide_eq_true (by first | (with_reducible assumption) | assumption)
                        have q388 : (ji12) < ((rd_L1 l0_0 (ji9)).length : Int) := of_decide_eq_true (by first | (with_reducible assumption) | assumption)
                        obtain ⟨ad388, e388, hx388_0⟩ := Kd.at_int HR387_0.out (ji12) p388 q388
                        have hw388_0 := hx388_0
                        cases e388
                        replace hx388_0 := (HB.out.cell (World.block_lt_of_cell? w _ hx388_0)).trans hx388_0
                        replace p388 := eq_true p388
                        replace q388 := eq_true q388
                        refine start_ (n := 30) (S := fun w' => w'.cell? ⟨gb385, 0, none⟩ = some (.slice (some ad387) l0_0.length c0_0) ∧ w'.cell? ⟨gb385, 1, none⟩ = some (.slice A0_1 l0_1.length c0_1) ∧ w'.cell? (ad387.add ((ji9)).toNat) = some (.slice (some ad388) (rd_L1 l0_0 (ji9)).length c387_0) ∧ w'.cell? (ad388.add ((ji12)).toNat) = some (.int .i64 (rd (rd_L1 l0_0 (ji9)) (ji12)))) (ds := []) #[false, false, false, false, false, false, false, false, false, false, false, false, false, false, false, false, false, false, false, false, false, false, false, false, false, false, false, false, false, false] (by kernel_rfl) rfl rfl ⟨(blk_cell BK385.out 0).trans rfl, (blk_cell BK385.out 1).trans rfl, ((HB.out.cell (World.block_lt_of_cell? w _ hw387_0)).trans hw387_0), ((HB.out.cell (World.block_lt_of_cell? w _ hw388_0)).trans hw388_0)⟩ (fun hHeld => ?_); refine with_tabW spec_ModularOk.tab10 spec_ModularOk.bits10 (fun HT_ HW_ => ?_)
                        generalize wr.drew = w21 at BK385 HB HR387_0 hx387_0 hx388_0 hHeld ⊢
                        refine pure_ (i := 0) (N := some 36) (v := ?_) (a' := ?_) #[true, false, false, false, false, false, false, false, false, false, false, false, false, false, false, false, false, false, false, false, false, false, false, false, false, false, false, false, false, false] rfl rfl (any_of HT_.out (by kernel_rfl)) (fun _ _ _ h => h) (Or.inl ⟨by rfl, ?_⟩) ?_ ?_
                        rotate_left
                        · intro w'
                          go_simp
                          with_reducible rfl
                        rotate_left
                        · simp only [Act.put, List.setIfInBounds_toArray, List.set_cons_zero, List.set_cons_succ, i64_w, i32_w]
                          rfl
                        refine pure_ (i := 2) (N := some 38) (v := ?_) (a' := ?_) #[true, false, true, false, false, false, false, false, false, false, false, false, false, false, false, false, false, false, false, false, false, false, false, false, false, false, false, false, false, false] rfl rfl (any_of HT_.out (by kernel_rfl)) (fun _ _ _ h => h) (Or.inl ⟨by rfl, ?_⟩) ?_ ?_
                        rotate_left
                        · intro w'
                          go_simp
                          with_reducible rfl
                        rotate_left
                        · simp only [Act.put, List.setIfInBounds_toArray, List.set_cons_zero, List.set_cons_succ, i64_w, i32_w]
                          rfl
                        refine pure_ (i := 5) (N := some 41) (v := ?_) (a' := ?_) #[true, false, true, false, false, true, false, false, false, false, false, false, false, false, false, false, false, false, false, false, false, false, false, false, false, false, false, false, false, false] rfl rfl (any_of HT_.out (by kernel_rfl)) (fun _ _ _ h => h) (Or.inl ⟨by rfl, ?_⟩) ?_ ?_
                        rotate_left
                        · intro w'
                          go_simp
                          with_reducible rfl
                        rotate_left
                        · simp only [Act.put, List.setIfInBounds_toArray, List.set_cons_zero, List.set_cons_succ, i64_w, i32_w]
                          rfl
                        refine take_ (i := 1) (N := some 37) (v := ?_) (a' := ?_) #[true, true, true, false, false, true, false, false, false, false, false, false, false, false, false, false, false, false, false, false, false, false, false, false, false, false, false, false, false, false] rfl rfl (take_ofW HT_.out HW_.out (by kernel_rfl)) (fun _ _ _ h => h) (Or.inl ⟨by rfl, ?_⟩) hHeld ?_ ?_
                        rotate_left
                        · rintro w' ⟨s0, s1, s2, s3⟩
                          go_simp
                          with_reducible rfl
                        rotate_left
                        · simp only [Act.put, List.setIfInBounds_toArray, List.set_cons_zero, List.set_cons_succ, i64_w, i32_w]
                          rfl
                        refine pure_ (i := 3) (N := some 39) (v := ?_) (a' := ?_) #[true, true, true, true, false, true, false, false, false, false, false, false, false, false, false, false, false, false, false, false, false, false, false, false, false, false, false, false, false, false] rfl rfl (any_of HT_.out (by kernel_rfl)) (fun _ _ _ h => h) (Or.inl ⟨by rfl, ?_⟩) ?_ ?_
                        rotate_left
                        · intro w'
                          go_simp
                          with_reducible rfl
                        rotate_left
                        · simp only [Act.put, List.setIfInBounds_toArray, List.set_cons_zero, List.set_cons_succ, i64_w, i32_w]
                          rfl
                        refine take_ (i := 4) (N := some 40) (v := ?_) (a' := ?_) #[true, true, true, true, true, true, false, false, false, false, false, false, false, false, false, false, false, false, false, false, false, false, false, false, false, false, false, false, false, false] rfl rfl (take_ofW HT_.out HW_.out (by kernel_rfl)) (fun _ _ _ h => h) (Or.inl ⟨by rfl, ?_⟩) hHeld ?_ ?_
                        rotate_left
                        · rintro w' ⟨s0, s1, s2, s3⟩
                          go_simp
                          with_reducible rfl
                        rotate_left
                        · simp only [Act.put, List.setIfInBounds_toArray, List.set_cons_zero, List.set_cons_succ, i64_w, i32_w]
                          rfl
                        refine pure_ (i := 6) (N := some 42) (v := ?_) (a' := ?_) #[true, true, true, true, true, true, true, false, false, false, false, false, false, false, false, false, false, false, false, false, false, false, false, false, false, false, false, false, false, false] rfl rfl (any_of HT_.out (by kernel_rfl)) (fun _ _ _ h => h) (Or.inl ⟨by rfl, ?_⟩) ?_ ?_
                        rotate_left
                        · intro w'
                          go_simp
                          with_reducible rfl
                        rotate_left
                        · simp only [Act.put, List.setIfInBounds_toArray, List.set_cons_zero, List.set_cons_succ, i64_w, i32_w]
                          rfl
                        refine take_ (i := 7) (N := some 43) (v := ?_) (a' := ?_) #[true, true, true, true, true, true, true, true, false, false, false, false, false, false, false, false, false, false, false, false, false, false, false, false, false, false, false, false, false, false] rfl rfl (take_ofW HT_.out HW_.out (by kernel_rfl)) (fun _ _ _ h => h) (Or.inl ⟨by rfl, ?_⟩) hHeld ?_ ?_
                        rotate_left
                        · rintro w' ⟨s0, s1, s2, s3⟩
                          go_simp
                          with_reducible rfl
                        rotate_left
                        · simp only [Act.put, List.setIfInBounds_toArray, List.set_cons_zero, List.set_cons_succ, i64_w, i32_w]
                          rfl
                        refine pure_ (i := 8) (N := some 44) (v := ?_) (a' := ?_) #[true, true, true, true, true, true, true, true, true, false, false, false, false, false, false, false, false, false, false, false, false, false, false, false, false, false, false, false, false, false] rfl rfl (any_of HT_.out (by kernel_rfl)) (fun _ _ _ h => h) (Or.inl ⟨by rfl, ?_⟩) ?_ ?_
                        rotate_left
                        · intro w'
                          go_simp
                          with_reducible rfl
                        rotate_left
                        · simp only [Act.put, List.setIfInBounds_toArray, List.set_cons_zero, List.set_cons_succ, i64_w, i32_w]
                          rfl
                        refine pure_ (i := 9) (N := some 45) (v := ?_) (a' := ?_) #[true, true, true, true, true, true, true, true, true, true, false, false, false, false, false, false, false, false, false, false, false, false, false, false, false, false, false, false, false, false] rfl rfl (any_of HT_.out (by kernel_rfl)) (fun _ _ _ h => h) (Or.inl ⟨by rfl, ?_⟩) ?_ ?_
                        rotate_left
                        · intro w'
                          go_simp
                          with_reducible rfl
                        rotate_left
                        · simp only [Act.put, List.setIfInBounds_toArray, List.set_cons_zero, List.set_cons_succ, i64_w, i32_w]
                          rfl
                        refine pure_ (i := 10) (N := some 46) (v := ?_) (a' := ?_) #[true, true, true, true, true, true, true, true, true, true, true, false, false, false, false, false, false, false, false, false, false, false, false, false, false, false, false, false, false, false] rfl rfl (any_of HT_.out (by kernel_rfl)) (fun _ _ _ h => h) (Or.inl ⟨by rfl, ?_⟩) ?_ ?_
                        rotate_left
                        · intro w'
                          go_simp
                          with_reducible rfl
                        rotate_left
                        · simp only [Act.put, List.setIfInBounds_toArray, List.set_cons_zero, List.set_cons_succ, i64_w, i32_w]
                          rfl
                        refine pure_ (i := 12) (N := some 48) (v := ?_) (a' := ?_) #[true, true, true, true, true, true, true, true, true, true, true, false, true, false, false, false, false, false, false, false, false, false, false, false, false, false, false, false, false, false] rfl rfl (any_of HT_.out (by kernel_rfl)) (fun _ _ _ h => h) (Or.inl ⟨by rfl, ?_⟩) ?_ ?_
                        rotate_left
                        · intro w'
                          go_simp
                          with_reducible rfl
                        rotate_left
                        · simp only [Act.put, List.setIfInBounds_toArray, List.set_cons_zero, List.set_cons_succ, i64_w, i32_w]
                          rfl
                        refine pure_ (i := 13) (N := some 49) (v := ?_) (a' := ?_) #[true, true, true, true, true, true, true, true, true, true, true, false, true, true, false, false, false, false, false, false, false, false, false, false, false, false, false, false, false, false] rfl rfl (any_of HT_.out (by kernel_rfl)) (fun _ _ _ h => h) (Or.inl ⟨by rfl, ?_⟩) ?_ ?_
                        rotate_left
                        · intro w'
                          go_simp
                          with_reducible rfl
                        rotate_left
                        · simp only [Act.put, List.setIfInBounds_toArray, List.set_cons_zero, List.set_cons_succ, i64_w, i32_w]
                          rfl
                        refine pure_ (i := 15) (N := some 51) (v := ?_) (a' := ?_) #[true, true, true, true, true, true, true, true, true, true, true, false, true, true, false, true, false, false, false, false, false, false, false, false, false, false, false, false, false, false] rfl rfl (any_of HT_.out (by kernel_rfl)) (fun _ _ _ h => h) (Or.inl ⟨by rfl, ?_⟩) ?_ ?_
                        rotate_left
                        · intro w'
                          go_simp
                          with_reducible rfl
                        rotate_left
                        · simp only [Act.put, List.setIfInBounds_toArray, List.set_cons_zero, List.set_cons_succ, i64_w, i32_w]
                          rfl
                        refine pure_ (i := 16) (N := some 52) (v := ?_) (a' := ?_) #[true, true, true, true, true, true, true, true, true, true, true, false, true, true, false, true, true, false, false, false, false, false, false, false, false, false, false, false, false, false] rfl rfl (any_of HT_.out (by kernel_rfl)) (fun _ _ _ h => h) (Or.inl ⟨by rfl, ?_⟩) ?_ ?_
                        rotate_left
                        · intro w'
                          go_simp
                          with_reducible rfl
                        rotate_left
                        · simp only [Act.put, List.setIfInBounds_toArray, List.set_cons_zero, List.set_cons_succ, i64_w, i32_w]
                          rfl
                        refine pure_ (i := 19) (N := some 55) (v := ?_) (a' := ?_) #[true, true, true, true, true, true, true, true, true, true, true, false, true, true, false, true, true, false, false, true, false, false, false, false, false, false, false, false, false, false] rfl rfl (any_of HT_.out (by kernel_rfl)) (fun _ _ _ h => h) (Or.inl ⟨by rfl, ?_⟩) ?_ ?_
                        rotate_left
                        · intro w'
                          go_simp
                          with_reducible rfl
                        rotate_left
                        · simp only [Act.put, List.setIfInBounds_toArray, List.set_cons_zero, List.set_cons_succ, i64_w, i32_w]
                          rfl
                        refine pure_ (i := 21) (N := some 57) (v := ?_) (a' := ?_) #[true, true, true, true, true, true, true, true, true, true, true, false, true, true, false, true, true, false, false, true, false, true, false, false, false, false, false, false, false, false] rfl rfl (any_of HT_.out (by kernel_rfl)) (fun _ _ _ h => h) (Or.inl ⟨by rfl, ?_⟩) ?_ ?_
                        rotate_left
                        · intro w'
                          go_simp
                          with_reducible rfl
                        rotate_left
                        · simp only [Act.put, List.setIfInBounds_toArray, List.set_cons_zero, List.set_cons_succ, i64_w, i32_w]
                          rfl
                        refine pure_ (i := 23) (N := some 59) (v := ?_) (a' := ?_) #[true, true, true, true, true, true, true, true, true, true, true, false, true, true, false, true, true, false, false, true, false, true, false, true, false, false, false, false, false, false] rfl rfl (any_of HT_.out (by kernel_rfl)) (fun _ _ _ h => h) (Or.inl ⟨by rfl, ?_⟩) ?_ ?_
                        rotate_left
                        · intro w'
                          go_simp
                          with_reducible rfl
                        rotate_left
                        · simp only [Act.put, List.setIfInBounds_toArray, List.set_cons_zero, List.set_cons_succ, i64_w, i32_w]
                          rfl
                        refine pure_ (i := 24) (N := some 60) (v := ?_) (a' := ?_) #[true, true, true, true, true, true, true, true, true, true, true, false, true, true, false, true, true, false, false, true, false, true, false, true, true, false, false, false, false, false] rfl rfl (any_of HT_.out (by kernel_rfl)) (fun _ _ _ h => h) (Or.inl ⟨by rfl, ?_⟩) ?_ ?_
                        rotate_left
                        · intro w'
                          go_simp
                          with_reducible rfl
                        rotate_left
                        · simp only [Act.put, List.setIfInBounds_toArray, List.set_cons_zero, List.set_cons_succ, i64_w, i32_w]
                          rfl
                        refine pure_ (i := 26) (N := some 62) (v := ?_) (a' := ?_) #[true, true, true, true, true, true, true, true, true, true, true, false, true, true, false, true, true, false, false, true, false, true, false, true, true, false, true, false, false, false] rfl rfl (any_of HT_.out (by kernel_rfl)) (fun _ _ _ h => h) (Or.inl ⟨by rfl, ?_⟩) ?_ ?_
                        rotate_left
                        · intro w'
                          go_simp
                          with_reducible rfl
                        rotate_left
                        · simp only [Act.put, List.setIfInBounds_toArray, List.set_cons_zero, List.set_cons_succ, i64_w, i32_w]
                          rfl
                        refine take_ (i := 11) (N := some 47) (v := ?_) (a' := ?_) #[true, true, true, true, true, true, true, true, true, true, true, true, true, true, false, true, true, false, false, true, false, true, false, true, true, false, true, false, false, false] rfl rfl (take_ofW HT_.out HW_.out (by kernel_rfl)) (fun _ _ _ h => h) (Or.inl ⟨by rfl, ?_⟩) hHeld ?_ ?_
                        rotate_left
                        · rintro w' ⟨s0, s1, s2, s3⟩
                          go_simp
                          with_reducible rfl
                        rotate_left
                        · simp only [Act.put, List.setIfInBounds_toArray, List.set_cons_zero, List.set_cons_succ, i64_w, i32_w]
                          rfl
                        refine take_ (i := 14) (N := some 50) (v := ?_) (a' := ?_) #[true, true, true, true, true, true, true, true, true, true, true, true, true, true, true, true, true, false, false, true, false, true, false, true, true, false, true, false, false, false] rfl rfl (take_ofW HT_.out HW_.out (by kernel_rfl)) (fun _ _ _ h => h) (Or.inl ⟨by rfl, ?_⟩) hHeld ?_ ?_
                        rotate_left
                        · rintro w' ⟨s0, s1, s2, s3⟩
                          go_simp
                          with_reducible rfl
                        rotate_left
                        · simp only [Act.put, List.setIfInBounds_toArray, List.set_cons_zero, List.set_cons_succ, i64_w, i32_w]
                          rfl
                        refine take_ (i := 20) (N := some 56) (v := ?_) (a' := ?_) #[true, true, true, true, true, true, true, true, true, true, true, true, true, true, true, true, true, false, false, true, true, true, false, true, true, false, true, false, false, false] rfl rfl (take_ofW HT_.out HW_.out (by kernel_rfl)) (fun _ _ _ h => h) (Or.inl ⟨by rfl, ?_⟩) hHeld ?_ ?_
                        rotate_left
                        · rintro w' ⟨s0, s1, s2, s3⟩
                          go_simp
                          with_reducible rfl
                        rotate_left
                        · simp only [Act.put, List.setIfInBounds_toArray, List.set_cons_zero, List.set_cons_succ, i64_w, i32_w]
                          rfl
                        refine take_ (i := 22) (N := some 58) (v := ?_) (a' := ?_) #[true, true, true, true, true, true, true, true, true, true, true, true, true, true, true, true, true, false, false, true, true, true, true, true, true, false, true, false, false, false] rfl rfl (take_ofW HT_.out HW_.out (by kernel_rfl)) (fun _ _ _ h => h) (Or.inl ⟨by rfl, ?_⟩) hHeld ?_ ?_
                        rotate_left
                        · rintro w' ⟨s0, s1, s2, s3⟩
                          go_simp
                          with_reducible rfl
                        rotate_left
                        · simp only [Act.put, List.setIfInBounds_toArray, List.set_cons_zero, List.set_cons_succ, i64_w, i32_w]
                          rfl
                        refine one_ (i := 17) (N := some 53) #[true, true, true, true, true, true, true, true, true, true, true, true, true, true, true, true, true, true, false, true, true, true, true, true, true, false, true, false, false, false] rfl rfl (one_of HT_.out (by kernel_rfl)) (by decide) (fun K hK => ?_)
                        refine goes_ Try.func52 (by kernel_rfl) rfl #[.slice (some ad387) l0_0.length c0_0, .int .i64 (Int.tmod (wrap64 (Int.tdiv x4_1 (l0_1.length : Int))) (l0_1.length : Int)), .int .i64 ji12] (by rfl) rfl rfl (by (try simp only [List.map_toArray, List.map_cons, List.map_nil]); first | done | (simp only [hji12]; rfl) | rfl | (simp only [List.length_drop, List.length_take]; rfl)) ?_
                        with_reducible refine (spec_l1Meet.calls k1 _ _ l0_0 (Int.tmod (wrap64 (Int.tdiv x4_1 (l0_1.length : Int))) (l0_1.length : Int)) ji12 t389 _ ?side1 ?side2 A16.out).mono ?_
                        (case side1 => repeat (first | exact (Kd.C_below HR0_0.out HB.out) | (with_reducible refine Kd.C_alloc ?_ _) | (with_reducible refine Kd.C_drewN ?_ _) | (with_reducible refine Kd.C_drew ?_)))
                        (case side2 => exact HC0_0.out)
                        rintro e w' ⟨rfl, ⟨nd, rfl⟩⟩
                        refine ⟨_, rfl, ?_⟩
                        refine hK.out _ _ ⟨(blk_cell BK385.out 0).trans rfl, (blk_cell BK385.out 1).trans rfl, ((HB.out.cell (World.block_lt_of_cell? w _ hw387_0)).trans hw387_0), ((HB.out.cell (World.block_lt_of_cell? w _ hw388_0)).trans hw388_0)⟩ (fun hHeld => ?_)
                        clear hK K
                        refine norm_ (a' := ?_) ?_ ?_
                        rotate_left
                        · show Act.put _ (some 53) _ = _
                          simp only [Act.put, List.setIfInBounds_toArray, List.set_cons_zero, List.set_cons_succ, i64_w, i32_w]
                          rfl
                        refine one_ (i := 18) (N := some 54) #[true, true, true, true, true, true, true, true, true, true, true, true, true, true, true, true, true, true, true, true, true, true, true, true, true, false, true, false, false, false] rfl rfl (one_of HT_.out (by kernel_rfl)) (by decide) (fun K hK => ?_)
                        refine goes_ Try.func51 (by kernel_rfl) rfl #[.slice (some ad387) l0_0.length c0_0, .int .i64 ji9, .int .i64 t389] (by rfl) rfl rfl (by (try simp only [List.map_toArray, List.map_cons, List.map_nil]); first | done | (simp only [hji9]; rfl) | rfl | (simp only [List.length_drop, List.length_take]; rfl)) ?_
                        with_reducible refine (spec_l1Join.calls k1 _ _ l0_0 ji9 t389 t390 _ ?side1 ?side2 A17.out).mono ?_
                        (case side1 => repeat (first | exact (Kd.C_below HR0_0.out (by repeat (first | (with_reducible first | exact HB.out | apply below_alloc | apply pw_below_drewN | apply below_drew1 | refine below_set ?_ GE385.out) | exact HB.out))) | (with_reducible refine Kd.C_alloc ?_ _) | (with_reducible refine Kd.C_drewN ?_ _) | (with_reducible refine Kd.C_drew ?_)))
                        (case side2 => exact HC0_0.out)
                        rintro e w' ⟨rfl, ⟨nd, rfl⟩⟩
                        refine ⟨_, rfl, ?_⟩
                        refine hK.out _ _ ⟨(blk_cell BK385.out 0).trans rfl, (blk_cell BK385.out 1).trans rfl, ((HB.out.cell (World.block_lt_of_cell? w _ hw387_0)).trans hw387_0), ((HB.out.cell (World.block_lt_of_cell? w _ hw388_0)).trans hw388_0)⟩ (fun hHeld => ?_)
                        clear hK K
                        refine norm_ (a' := ?_) ?_ ?_
                        rotate_left
                        · show Act.put _ (some 54) _ = _
                          simp only [Act.put, List.setIfInBounds_toArray, List.set_cons_zero, List.set_cons_succ, i64_w, i32_w]
                          rfl
                        refine one_ (i := 25) (N := some 61) #[true, true, true, true, true, true, true, true, true, true, true, true, true, true, true, true, true, true, true, true, true, true, true, true, true, true, true, false, false, false] rfl rfl (one_of HT_.out (by kernel_rfl)) (by decide) (fun K hK => ?_)
                        refine goes_ Try.func51 (by kernel_rfl) rfl #[.slice (some ad387) l0_0.length c0_0, .int .i64 ji9, .int .i64 (Int.tmod (wrap64 (Int.tdiv x4_1 (l0_1.length : Int))) (l0_1.length : Int))] (by rfl) rfl rfl (by (try simp only [List.map_toArray, List.map_cons, List.map_nil]); first | done | (simp only [hji9]; rfl) | rfl | (simp only [List.length_drop, List.length_take]; rfl)) ?_
                        with_reducible refine (spec_l1Join.calls k1 _ _ l0_0 ji9 (Int.tmod (wrap64 (Int.tdiv x4_1 (l0_1.length : Int))) (l0_1.length : Int)) t391 _ ?side1 ?side2 A18.out).mono ?_
                        (case side1 => repeat (first | exact (Kd.C_below HR0_0.out (by repeat (first | (with_reducible first | exact HB.out | apply below_alloc | apply pw_below_drewN | apply below_drew1 | refine below_set ?_ GE385.out) | exact HB.out))) | (with_reducible refine Kd.C_alloc ?_ _) | (with_reducible refine Kd.C_drewN ?_ _) | (with_reducible refine Kd.C_drew ?_)))
                        (case side2 => exact HC0_0.out)
                        rintro e w' ⟨rfl, ⟨nd, rfl⟩⟩
                        refine ⟨_, rfl, ?_⟩
                        refine hK.out _ _ ⟨(blk_cell BK385.out 0).trans rfl, (blk_cell BK385.out 1).trans rfl, ((HB.out.cell (World.block_lt_of_cell? w _ hw387_0)).trans hw387_0), ((HB.out.cell (World.block_lt_of_cell? w _ hw388_0)).trans hw388_0)⟩ (fun hHeld => ?_)
                        clear hK K
                        refine norm_ (a' := ?_) ?_ ?_
                        rotate_left
                        · show Act.put _ (some 61) _ = _
                          simp only [Act.put, List.setIfInBounds_toArray, List.set_cons_zero, List.set_cons_succ, i64_w, i32_w]
                          rfl
                        refine one_ (i := 27) (N := some 63) #[true, true, true, true, true, true, true, true, true, true, true, true, true, true, true, true, true, true, true, true, true, true, true, true, true, true, true, true, false, false] rfl rfl (one_of HT_.out (by kernel_rfl)) (by decide) (fun K hK => ?_)
                        refine goes_ Try.func52 (by kernel_rfl) rfl #[.slice (some ad387) l0_0.length c0_0, .int .i64 t391, .int .i64 ji12] (by rfl) rfl rfl (by (try simp only [List.map_toArray, List.map_cons, List.map_nil]); first | done | (simp only [hji12]; rfl) | rfl | (simp only [List.length_drop, List.length_take]; rfl)) ?_
                        with_reducible refine (spec_l1Meet.calls k1 _ _ l0_0 t391 ji12 t392 _ ?side1 ?side2 A19.out).mono ?_
                        (case side1 => repeat (first | exact (Kd.C_below HR0_0.out (by repeat (first | (with_reducible first | exact HB.out | apply below_alloc | apply pw_below_drewN | apply below_drew1 | refine below_set ?_ GE385.out) | exact HB.out))) | (with_reducible refine Kd.C_alloc ?_ _) | (with_reducible refine Kd.C_drewN ?_ _) | (with_reducible refine Kd.C_drew ?_)))
                        (case side2 => exact HC0_0.out)
                        rintro e w' ⟨rfl, ⟨nd, rfl⟩⟩
                        refine ⟨_, rfl, ?_⟩
                        refine hK.out _ _ ⟨(blk_cell BK385.out 0).trans rfl, (blk_cell BK385.out 1).trans rfl, ((HB.out.cell (World.block_lt_of_cell? w _ hw387_0)).trans hw387_0), ((HB.out.cell (World.block_lt_of_cell? w _ hw388_0)).trans hw388_0)⟩ (fun hHeld => ?_)
                        clear hK K
                        refine norm_ (a' := ?_) ?_ ?_
                        rotate_left
                        · show Act.put _ (some 63) _ = _
                          simp only [Act.put, List.setIfInBounds_toArray, List.set_cons_zero, List.set_cons_succ, i64_w, i32_w]
                          rfl
                        refine pure_ (i := 28) (N := some 64) (v := ?_) (a' := ?_) #[true, true, true, true, true, true, true, true, true, true, true, true, true, true, true, true, true, true, true, true, true, true, true, true, true, true, true, true, true, false] rfl rfl (any_of HT_.out (by kernel_rfl)) (fun _ _ _ h => h) (Or.inl ⟨by rfl, ?_⟩) ?_ ?_
                        rotate_left
                        · intro w'
                          go_simp
                          with_reducible rfl
                        rotate_left
                        · simp only [Act.put, List.setIfInBounds_toArray, List.set_cons_zero, List.set_cons_succ, i64_w, i32_w]
                          rfl
                        refine pure_ (i := 29) (N := some 65) (v := ?_) (a' := ?_) #[true, true, true, true, true, true, true, true, true, true, true, true, true, true, true, true, true, true, true, true, true, true, true, true, true, true, true, true, true, true] rfl rfl (any_of HT_.out (by kernel_rfl)) (fun _ _ _ h => h) (Or.inl ⟨by rfl, ?_⟩) ?_ ?_
                        rotate_left
                        · intro w'
                          go_simp
                          with_reducible rfl
                        rotate_left
                        · simp only [Act.put, List.setIfInBounds_toArray, List.set_cons_zero, List.set_cons_succ, i64_w, i32_w]
                          rfl
                        refine done_ (done_of HT_.out (by kernel_rfl)) ?_
                        try go_wp2
                        go_roundg k1
                        case measure => have := HK1.out; omega
                        case rel => exact ⟨(wrap64 (x4_1 + 1)), (by first | rfl | (simp; done) | (simp [*]; done)), H', ⟨by have := HK1.out; omega⟩, ⟨by (with_reducible repeat (first | refine blk_drewN ?_ _ | refine blk_drew ?_ | refine blk_alloc ?_ _)); exact BK385.out⟩, ⟨by repeat (first | (with_reducible first | exact HB.out | apply below_alloc | apply pw_below_drewN | apply below_drew1 | refine below_set ?_ GE385.out) | exact HB.out)⟩⟩
                      · rw [if_neg c20] at H
                        have c20b0 : (t390 == t392) = false := beq_eq_false_iff_ne.mpr c20
                        have c20b1 : (t390 != t392) = true := bne_iff_ne.mpr c20
                        obtain rfl := Option.some.inj H
                        try go_wp2
                        have n0_ := Aside0.mk (blk_drew BK385.out)
                        have n1_ := Aside0.mk (below_drew1 HB.out)
                        clear BK385
                        clear HB
                        have BK385 := n0_
                        have HB := n1_
                        clear n0_ n1_
                        have p387 : 0 ≤ ((ji9) : Int) := of_decide_eq_true (by first | (with_reducible assumption) | assumption)
                        have q387 : (ji9) < (l0_0.length : Int) := of_decide_eq_true (by first | (with_reducible assumption) | assumption)
                        obtain ⟨ad387, A387_0, c387_0, e387, hx387_0, hl387_0, hi387_0⟩ := at_L1 HR0_0.out (ji9) p387 q387
                        have hw387_0 := hx387_0
                        cases e387
                        replace hx387_0 := (HB.out.cell (World.block_lt_of_cell? w _ hx387_0)).trans hx387_0
                        have HR387_0 := Aside0.mk hi387_0
                        have HC387_0 := Aside0.mk hl387_0
                        clear hi387_0 hl387_0
                        replace p387 := eq_true p387
                        replace q387 := eq_true q387
                        have p388 : 0 ≤ ((ji12) : Int) := of_decide_eq_true (by first | (with_reducible assumption) | assumption)
                        have q388 : (ji12) < ((rd_L1 l0_0 (ji9)).length : Int) := of_decide_eq_true (by first | (with_reducible assumption) | assumption)
                        obtain ⟨ad388, e388, hx388_0⟩ := Kd.at_int HR387_0.out (ji12) p388 q388
                        have hw388_0 := hx388_0
                        cases e388
                        replace hx388_0 := (HB.out.cell (World.block_lt_of_cell? w _ hx388_0)).trans hx388_0
                        replace p388 := eq_true p388
                        replace q388 := eq_true q388
                        refine start_ (n := 30) (S := fun w' => w'.cell? ⟨gb385, 0, none⟩ = some (.slice (some ad387) l0_0.length c0_0) ∧ w'.cell? ⟨gb385, 1, none⟩ = some (.slice A0_1 l0_1.length c0_1) ∧ w'.cell? (ad387.add ((ji9)).toNat) = some (.slice (some ad388) (rd_L1 l0_0 (ji9)).length c387_0) ∧ w'.cell? (ad388.add ((ji12)).toNat) = some (.int .i64 (rd (rd_L1 l0_0 (ji9)) (ji12)))) (ds := []) #[false, false, false, false, false, false, false, false, false, false, false, false, false, false, false, false, false, false, false, false, false, false, false, false, false, false, false, false, false, false] (by kernel_rfl) rfl rfl ⟨(blk_cell BK385.out 0).trans rfl, (blk_cell BK385.out 1).trans rfl, ((HB.out.cell (World.block_lt_of_cell? w _ hw387_0)).trans hw387_0), ((HB.out.cell (World.block_lt_of_cell? w _ hw388_0)).trans hw388_0)⟩ (fun hHeld => ?_); refine with_tabW spec_ModularOk.tab10 spec_ModularOk.bits10 (fun HT_ HW_ => ?_)
                        generalize wr.drew = w22 at BK385 HB HR387_0 hx387_0 hx388_0 hHeld ⊢
                        refine pure_ (i := 0) (N := some 36) (v := ?_) (a' := ?_) #[true, false, false, false, false, false, false, false, false, false, false, false, false, false, false, false, false, false, false, false, false, false, false, false, false, false, false, false, false, false] rfl rfl (any_of HT_.out (by kernel_rfl)) (fun _ _ _ h => h) (Or.inl ⟨by rfl, ?_⟩) ?_ ?_
                        rotate_left
                        · intro w'
                          go_simp
                          with_reducible rfl
                        rotate_left
                        · simp only [Act.put, List.setIfInBounds_toArray, List.set_cons_zero, List.set_cons_succ, i64_w, i32_w]
                          rfl
                        refine pure_ (i := 2) (N := some 38) (v := ?_) (a' := ?_) #[true, false, true, false, false, false, false, false, false, false, false, false, false, false, false, false, false, false, false, false, false, false, false, false, false, false, false, false, false, false] rfl rfl (any_of HT_.out (by kernel_rfl)) (fun _ _ _ h => h) (Or.inl ⟨by rfl, ?_⟩) ?_ ?_
                        rotate_left
                        · intro w'
                          go_simp
                          with_reducible rfl
                        rotate_left
                        · simp only [Act.put, List.setIfInBounds_toArray, List.set_cons_zero, List.set_cons_succ, i64_w, i32_w]
                          rfl
                        refine pure_ (i := 5) (N := some 41) (v := ?_) (a' := ?_) #[true, false, true, false, false, true, false, false, false, false, false, false, false, false, false, false, false, false, false, false, false, false, false, false, false, false, false, false, false, false] rfl rfl (any_of HT_.out (by kernel_rfl)) (fun _ _ _ h => h) (Or.inl ⟨by rfl, ?_⟩) ?_ ?_
                        rotate_left
                        · intro w'
                          go_simp
                          with_reducible rfl
                        rotate_left
                        · simp only [Act.put, List.setIfInBounds_toArray, List.set_cons_zero, List.set_cons_succ, i64_w, i32_w]
                          rfl
                        refine take_ (i := 1) (N := some 37) (v := ?_) (a' := ?_) #[true, true, true, false, false, true, false, false, false, false, false, false, false, false, false, false, false, false, false, false, false, false, false, false, false, false, false, false, false, false] rfl rfl (take_ofW HT_.out HW_.out (by kernel_rfl)) (fun _ _ _ h => h) (Or.inl ⟨by rfl, ?_⟩) hHeld ?_ ?_
                        rotate_left
                        · rintro w' ⟨s0, s1, s2, s3⟩
                          go_simp
                          with_reducible rfl
                        rotate_left
                        · simp only [Act.put, List.setIfInBounds_toArray, List.set_cons_zero, List.set_cons_succ, i64_w, i32_w]
                          rfl
                        refine pure_ (i := 3) (N := some 39) (v := ?_) (a' := ?_) #[true, true, true, true, false, true, false, false, false, false, false, false, false, false, false, false, false, false, false, false, false, false, false, false, false, false, false, false, false, false] rfl rfl (any_of HT_.out (by kernel_rfl)) (fun _ _ _ h => h) (Or.inl ⟨by rfl, ?_⟩) ?_ ?_
                        rotate_left
                        · intro w'
                          go_simp
                          with_reducible rfl
                        rotate_left
                        · simp only [Act.put, List.setIfInBounds_toArray, List.set_cons_zero, List.set_cons_succ, i64_w, i32_w]
                          rfl
                        refine take_ (i := 4) (N := some 40) (v := ?_) (a' := ?_) #[true, true, true, true, true, true, false, false, false, false, false, false, false, false, false, false, false, false, false, false, false, false, false, false, false, false, false, false, false, false] rfl rfl (take_ofW HT_.out HW_.out (by kernel_rfl)) (fun _ _ _ h => h) (Or.inl ⟨by rfl, ?_⟩) hHeld ?_ ?_
                        rotate_left
                        · rintro w' ⟨s0, s1, s2, s3⟩
                          go_simp
                          with_reducible rfl
                        rotate_left
                        · simp only [Act.put, List.setIfInBounds_toArray, List.set_cons_zero, List.set_cons_succ, i64_w, i32_w]
                          rfl
                        refine pure_ (i := 6) (N := some 42) (v := ?_) (a' := ?_) #[true, true, true, true, true, true, true, false, false, false, false, false, false, false, false, false, false, false, false, false, false, false, false, false, false, false, false, false, false, false] rfl rfl (any_of HT_.out (by kernel_rfl)) (fun _ _ _ h => h) (Or.inl ⟨by rfl, ?_⟩) ?_ ?_
                        rotate_left
                        · intro w'
                          go_simp
                          with_reducible rfl
                        rotate_left
                        · simp only [Act.put, List.setIfInBounds_toArray, List.set_cons_zero, List.set_cons_succ, i64_w, i32_w]
                          rfl
                        refine take_ (i := 7) (N := some 43) (v := ?_) (a' := ?_) #[true, true, true, true, true, true, true, true, false, false, false, false, false, false, false, false, false, false, false, false, false, false, false, false, false, false, false, false, false, false] rfl rfl (take_ofW HT_.out HW_.out (by kernel_rfl)) (fun _ _ _ h => h) (Or.inl ⟨by rfl, ?_⟩) hHeld ?_ ?_
                        rotate_left
                        · rintro w' ⟨s0, s1, s2, s3⟩
                          go_simp
                          with_reducible rfl
                        rotate_left
                        · simp only [Act.put, List.setIfInBounds_toArray, List.set_cons_zero, List.set_cons_succ, i64_w, i32_w]
                          rfl
                        refine pure_ (i := 8) (N := some 44) (v := ?_) (a' := ?_) #[true, true, true, true, true, true, true, true, true, false, false, false, false, false, false, false, false, false, false, false, false, false, false, false, false, false, false, false, false, false] rfl rfl (any_of HT_.out (by kernel_rfl)) (fun _ _ _ h => h) (Or.inl ⟨by rfl, ?_⟩) ?_ ?_
                        rotate_left
                        · intro w'
                          go_simp
                          with_reducible rfl
                        rotate_left
                        · simp only [Act.put, List.setIfInBounds_toArray, List.set_cons_zero, List.set_cons_succ, i64_w, i32_w]
                          rfl
                        refine pure_ (i := 9) (N := some 45) (v := ?_) (a' := ?_) #[true, true, true, true, true, true, true, true, true, true, false, false, false, false, false, false, false, false, false, false, false, false, false, false, false, false, false, false, false, false] rfl rfl (any_of HT_.out (by kernel_rfl)) (fun _ _ _ h => h) (Or.inl ⟨by rfl, ?_⟩) ?_ ?_
                        rotate_left
                        · intro w'
                          go_simp
                          with_reducible rfl
                        rotate_left
                        · simp only [Act.put, List.setIfInBounds_toArray, List.set_cons_zero, List.set_cons_succ, i64_w, i32_w]
                          rfl
                        refine pure_ (i := 10) (N := some 46) (v := ?_) (a' := ?_) #[true, true, true, true, true, true, true, true, true, true, true, false, false, false, false, false, false, false, false, false, false, false, false, false, false, false, false, false, false, false] rfl rfl (any_of HT_.out (by kernel_rfl)) (fun _ _ _ h => h) (Or.inl ⟨by rfl, ?_⟩) ?_ ?_
                        rotate_left
                        · intro w'
                          go_simp
                          with_reducible rfl
                        rotate_left
                        · simp only [Act.put, List.setIfInBounds_toArray, List.set_cons_zero, List.set_cons_succ, i64_w, i32_w]
                          rfl
                        refine pure_ (i := 12) (N := some 48) (v := ?_) (a' := ?_) #[true, true, true, true, true, true, true, true, true, true, true, false, true, false, false, false, false, false, false, false, false, false, false, false, false, false, false, false, false, false] rfl rfl (any_of HT_.out (by kernel_rfl)) (fun _ _ _ h => h) (Or.inl ⟨by rfl, ?_⟩) ?_ ?_
                        rotate_left
                        · intro w'
                          go_simp
                          with_reducible rfl
                        rotate_left
                        · simp only [Act.put, List.setIfInBounds_toArray, List.set_cons_zero, List.set_cons_succ, i64_w, i32_w]
                          rfl
                        refine pure_ (i := 13) (N := some 49) (v := ?_) (a' := ?_) #[true, true, true, true, true, true, true, true, true, true, true, false, true, true, false, false, false, false, false, false, false, false, false, false, false, false, false, false, false, false] rfl rfl (any_of HT_.out (by kernel_rfl)) (fun _ _ _ h => h) (Or.inl ⟨by rfl, ?_⟩) ?_ ?_
                        rotate_left
                        · intro w'
                          go_simp
                          with_reducible rfl
                        rotate_left
                        · simp only [Act.put, List.setIfInBounds_toArray, List.set_cons_zero, List.set_cons_succ, i64_w, i32_w]
                          rfl
                        refine pure_ (i := 15) (N := some 51) (v := ?_) (a' := ?_) #[true, true, true, true, true, true, true, true, true, true, true, false, true, true, false, true, false, false, false, false, false, false, false, false, false, false, false, false, false, false] rfl rfl (any_of HT_.out (by kernel_rfl)) (fun _ _ _ h => h) (Or.inl ⟨by rfl, ?_⟩) ?_ ?_
                        rotate_left
                        · intro w'
                          go_simp
                          with_reducible rfl
                        rotate_left
                        · simp only [Act.put, List.setIfInBounds_toArray, List.set_cons_zero, List.set_cons_succ, i64_w, i32_w]
                          rfl
                        refine pure_ (i := 16) (N := some 52) (v := ?_) (a' := ?_) #[true, true, true, true, true, true, true, true, true, true, true, false, true, true, false, true, true, false, false, false, false, false, false, false, false, false, false, false, false, false] rfl rfl (any_of HT_.out (by kernel_rfl)) (fun _ _ _ h => h) (Or.inl ⟨by rfl, ?_⟩) ?_ ?_
                        rotate_left
                        · intro w'
                          go_simp
                          with_reducible rfl
                        rotate_left
                        · simp only [Act.put, List.setIfInBounds_toArray, List.set_cons_zero, List.set_cons_succ, i64_w, i32_w]
                          rfl
                        refine pure_ (i := 19) (N := some 55) (v := ?_) (a' := ?_) #[true, true, true, true, true, true, true, true, true, true, true, false, true, true, false, true, true, false, false, true, false, false, false, false, false, false, false, false, false, false] rfl rfl (any_of HT_.out (by kernel_rfl)) (fun _ _ _ h => h) (Or.inl ⟨by rfl, ?_⟩) ?_ ?_
                        rotate_left
                        · intro w'
                          go_simp
                          with_reducible rfl
                        rotate_left
                        · simp only [Act.put, List.setIfInBounds_toArray, List.set_cons_zero, List.set_cons_succ, i64_w, i32_w]
                          rfl
                        refine pure_ (i := 21) (N := some 57) (v := ?_) (a' := ?_) #[true, true, true, true, true, true, true, true, true, true, true, false, true, true, false, true, true, false, false, true, false, true, false, false, false, false, false, false, false, false] rfl rfl (any_of HT_.out (by kernel_rfl)) (fun _ _ _ h => h) (Or.inl ⟨by rfl, ?_⟩) ?_ ?_
                        rotate_left
                        · intro w'
                          go_simp
                          with_reducible rfl
                        rotate_left
                        · simp only [Act.put, List.setIfInBounds_toArray, List.set_cons_zero, List.set_cons_succ, i64_w, i32_w]
                          rfl
                        refine pure_ (i := 23) (N := some 59) (v := ?_) (a' := ?_) #[true, true, true, true, true, true, true, true, true, true, true, false, true, true, false, true, true, false, false, true, false, true, false, true, false, false, false, false, false, false] rfl rfl (any_of HT_.out (by kernel_rfl)) (fun _ _ _ h => h) (Or.inl ⟨by rfl, ?_⟩) ?_ ?_
                        rotate_left
                        · intro w'
                          go_simp
                          with_reducible rfl
                        rotate_left
                        · simp only [Act.put, List.setIfInBounds_toArray, List.set_cons_zero, List.set_cons_succ, i64_w, i32_w]
                          rfl
                        refine pure_ (i := 24) (N := some 60) (v := ?_) (a' := ?_) #[true, true, true, true, true, true, true, true, true, true, true, false, true, true, false, true, true, false, false, true, false, true, false, true, true, false, false, false, false, false] rfl rfl (any_of HT_.out (by kernel_rfl)) (fun _ _ _ h => h) (Or.inl ⟨by rfl, ?_⟩) ?_ ?_
                        rotate_left
                        · intro w'
                          go_simp
                          with_reducible rfl
                        rotate_left
                        · simp only [Act.put, List.setIfInBounds_toArray, List.set_cons_zero, List.set_cons_succ, i64_w, i32_w]
                          rfl
                        refine pure_ (i := 26) (N := some 62) (v := ?_) (a' := ?_) #[true, true, true, true, true, true, true, true, true, true, true, false, true, true, false, true, true, false, false, true, false, true, false, true, true, false, true, false, false, false] rfl rfl (any_of HT_.out (by kernel_rfl)) (fun _ _ _ h => h) (Or.inl ⟨by rfl, ?_⟩) ?_ ?_
                        rotate_left
                        · intro w'
                          go_simp
                          with_reducible rfl
                        rotate_left
                        · simp only [Act.put, List.setIfInBounds_toArray, List.set_cons_zero, List.set_cons_succ, i64_w, i32_w]
                          rfl
                        refine take_ (i := 11) (N := some 47) (v := ?_) (a' := ?_) #[true, true, true, true, true, true, true, true, true, true, true, true, true, true, false, true, true, false, false, true, false, true, false, true, true, false, true, false, false, false] rfl rfl (take_ofW HT_.out HW_.out (by kernel_rfl)) (fun _ _ _ h => h) (Or.inl ⟨by rfl, ?_⟩) hHeld ?_ ?_
                        rotate_left
                        · rintro w' ⟨s0, s1, s2, s3⟩
                          go_simp
                          with_reducible rfl
                        rotate_left
                        · simp only [Act.put, List.setIfInBounds_toArray, List.set_cons_zero, List.set_cons_succ, i64_w, i32_w]
                          rfl
                        refine take_ (i := 14) (N := some 50) (v := ?_) (a' := ?_) #[true, true, true, true, true, true, true, true, true, true, true, true, true, true, true, true, true, false, false, true, false, true, false, true, true, false, true, false, false, false] rfl rfl (take_ofW HT_.out HW_.out (by kernel_rfl)) (fun _ _ _ h => h) (Or.inl ⟨by rfl, ?_⟩) hHeld ?_ ?_
                        rotate_left
                        · rintro w' ⟨s0, s1, s2, s3⟩
                          go_simp
                          with_reducible rfl
                        rotate_left
                        · simp only [Act.put, List.setIfInBounds_toArray, List.set_cons_zero, List.set_cons_succ, i64_w, i32_w]
                          rfl
                        refine take_ (i := 20) (N := some 56) (v := ?_) (a' := ?_) #[true, true, true, true, true, true, true, true, true, true, true, true, true, true, true, true, true, false, false, true, true, true, false, true, true, false, true, false, false, false] rfl rfl (take_ofW HT_.out HW_.out (by kernel_rfl)) (fun _ _ _ h => h) (Or.inl ⟨by rfl, ?_⟩) hHeld ?_ ?_
                        rotate_left
                        · rintro w' ⟨s0, s1, s2, s3⟩
                          go_simp
                          with_reducible rfl
                        rotate_left
                        · simp only [Act.put, List.setIfInBounds_toArray, List.set_cons_zero, List.set_cons_succ, i64_w, i32_w]
                          rfl
                        refine take_ (i := 22) (N := some 58) (v := ?_) (a' := ?_) #[true, true, true, true, true, true, true, true, true, true, true, true, true, true, true, true, true, false, false, true, true, true, true, true, true, false, true, false, false, false] rfl rfl (take_ofW HT_.out HW_.out (by kernel_rfl)) (fun _ _ _ h => h) (Or.inl ⟨by rfl, ?_⟩) hHeld ?_ ?_
                        rotate_left
                        · rintro w' ⟨s0, s1, s2, s3⟩
                          go_simp
                          with_reducible rfl
                        rotate_left
                        · simp only [Act.put, List.setIfInBounds_toArray, List.set_cons_zero, List.set_cons_succ, i64_w, i32_w]
                          rfl
                        refine one_ (i := 17) (N := some 53) #[true, true, true, true, true, true, true, true, true, true, true, true, true, true, true, true, true, true, false, true, true, true, true, true, true, false, true, false, false, false] rfl rfl (one_of HT_.out (by kernel_rfl)) (by decide) (fun K hK => ?_)
                        refine goes_ Try.func52 (by kernel_rfl) rfl #[.slice (some ad387) l0_0.length c0_0, .int .i64 (Int.tmod (wrap64 (Int.tdiv x4_1 (l0_1.length : Int))) (l0_1.length : Int)), .int .i64 ji12] (by rfl) rfl rfl (by (try simp only [List.map_toArray, List.map_cons, List.map_nil]); first | done | (simp only [hji12]; rfl) | rfl | (simp only [List.length_drop, List.length_take]; rfl)) ?_
                        with_reducible refine (spec_l1Meet.calls k1 _ _ l0_0 (Int.tmod (wrap64 (Int.tdiv x4_1 (l0_1.length : Int))) (l0_1.length : Int)) ji12 t389 _ ?side1 ?side2 A16.out).mono ?_
                        (case side1 => repeat (first | exact (Kd.C_below HR0_0.out HB.out) | (with_reducible refine Kd.C_alloc ?_ _) | (with_reducible refine Kd.C_drewN ?_ _) | (with_reducible refine Kd.C_drew ?_)))
                        (case side2 => exact HC0_0.out)
                        rintro e w' ⟨rfl, ⟨nd, rfl⟩⟩
                        refine ⟨_, rfl, ?_⟩
                        refine hK.out _ _ ⟨(blk_cell BK385.out 0).trans rfl, (blk_cell BK385.out 1).trans rfl, ((HB.out.cell (World.block_lt_of_cell? w _ hw387_0)).trans hw387_0), ((HB.out.cell (World.block_lt_of_cell? w _ hw388_0)).trans hw388_0)⟩ (fun hHeld => ?_)
                        clear hK K
                        refine norm_ (a' := ?_) ?_ ?_
                        rotate_left
                        · show Act.put _ (some 53) _ = _
                          simp only [Act.put, List.setIfInBounds_toArray, List.set_cons_zero, List.set_cons_succ, i64_w, i32_w]
                          rfl
                        refine one_ (i := 18) (N := some 54) #[true, true, true, true, true, true, true, true, true, true, true, true, true, true, true, true, true, true, true, true, true, true, true, true, true, false, true, false, false, false] rfl rfl (one_of HT_.out (by kernel_rfl)) (by decide) (fun K hK => ?_)
                        refine goes_ Try.func51 (by kernel_rfl) rfl #[.slice (some ad387) l0_0.length c0_0, .int .i64 ji9, .int .i64 t389] (by rfl) rfl rfl (by (try simp only [List.map_toArray, List.map_cons, List.map_nil]); first | done | (simp only [hji9]; rfl) | rfl | (simp only [List.length_drop, List.length_take]; rfl)) ?_
                        with_reducible refine (spec_l1Join.calls k1 _ _ l0_0 ji9 t389 t390 _ ?side1 ?side2 A17.out).mono ?_
                        (case side1 => repeat (first | exact (Kd.C_below HR0_0.out (by repeat (first | (with_reducible first | exact HB.out | apply below_alloc | apply pw_below_drewN | apply below_drew1 | refine below_set ?_ GE385.out) | exact HB.out))) | (with_reducible refine Kd.C_alloc ?_ _) | (with_reducible refine Kd.C_drewN ?_ _) | (with_reducible refine Kd.C_drew ?_)))
                        (case side2 => exact HC0_0.out)
                        rintro e w' ⟨rfl, ⟨nd, rfl⟩⟩
                        refine ⟨_, rfl, ?_⟩
                        refine hK.out _ _ ⟨(blk_cell BK385.out 0).trans rfl, (blk_cell BK385.out 1).trans rfl, ((HB.out.cell (World.block_lt_of_cell? w _ hw387_0)).trans hw387_0), ((HB.out.cell (World.block_lt_of_cell? w _ hw388_0)).trans hw388_0)⟩ (fun hHeld => ?_)
                        clear hK K
                        refine norm_ (a' := ?_) ?_ ?_
                        rotate_left
                        · show Act.put _ (some 54) _ = _
                          simp only [Act.put, List.setIfInBounds_toArray, List.set_cons_zero, List.set_cons_succ, i64_w, i32_w]
                          rfl
                        refine one_ (i := 25) (N := some 61) #[true, true, true, true, true, true, true, true, true, true, true, true, true, true, true, true, true, true, true, true, true, true, true, true, true, true, true, false, false, false] rfl rfl (one_of HT_.out (by kernel_rfl)) (by decide) (fun K hK => ?_)
                        refine goes_ Try.func51 (by kernel_rfl) rfl #[.slice (some ad387) l0_0.length c0_0, .int .i64 ji9, .int .i64 (Int.tmod (wrap64 (Int.tdiv x4_1 (l0_1.length : Int))) (l0_1.length : Int))] (by rfl) rfl rfl (by (try simp only [List.map_toArray, List.map_cons, List.map_nil]); first | done | (simp only [hji9]; rfl) | rfl | (simp only [List.length_drop, List.length_take]; rfl)) ?_
                        with_reducible refine (spec_l1Join.calls k1 _ _ l0_0 ji9 (Int.tmod (wrap64 (Int.tdiv x4_1 (l0_1.length : Int))) (l0_1.length : Int)) t391 _ ?side1 ?side2 A18.out).mono ?_
                        (case side1 => repeat (first | exact (Kd.C_below HR0_0.out (by repeat (first | (with_reducible first | exact HB.out | apply below_alloc | apply pw_below_drewN | apply below_drew1 | refine below_set ?_ GE385.out) | exact HB.out))) | (with_reducible refine Kd.C_alloc ?_ _) | (with_reducible refine Kd.C_drewN ?_ _) | (with_reducible refine Kd.C_drew ?_)))
                        (case side2 => exact HC0_0.out)
                        rintro e w' ⟨rfl, ⟨nd, rfl⟩⟩
                        refine ⟨_, rfl, ?_⟩
                        refine hK.out _ _ ⟨(blk_cell BK385.out 0).trans rfl, (blk_cell BK385.out 1).trans rfl, ((HB.out.cell (World.block_lt_of_cell? w _ hw387_0)).trans hw387_0), ((HB.out.cell (World.block_lt_of_cell? w _ hw388_0)).trans hw388_0)⟩ (fun hHeld => ?_)
                        clear hK K
                        refine norm_ (a' := ?_) ?_ ?_
                        rotate_left
                        · show Act.put _ (some 61) _ = _
                          simp only [Act.put, List.setIfInBounds_toArray, List.set_cons_zero, List.set_cons_succ, i64_w, i32_w]
                          rfl
                        refine one_ (i := 27) (N := some 63) #[true, true, true, true, true, true, true, true, true, true, true, true, true, true, true, true, true, true, true, true, true, true, true, true, true, true, true, true, false, false] rfl rfl (one_of HT_.out (by kernel_rfl)) (by decide) (fun K hK => ?_)
                        refine goes_ Try.func52 (by kernel_rfl) rfl #[.slice (some ad387) l0_0.length c0_0, .int .i64 t391, .int .i64 ji12] (by rfl) rfl rfl (by (try simp only [List.map_toArray, List.map_cons, List.map_nil]); first | done | (simp only [hji12]; rfl) | rfl | (simp only [List.length_drop, List.length_take]; rfl)) ?_
                        with_reducible refine (spec_l1Meet.calls k1 _ _ l0_0 t391 ji12 t392 _ ?side1 ?side2 A19.out).mono ?_
                        (case side1 => repeat (first | exact (Kd.C_below HR0_0.out (by repeat (first | (with_reducible first | exact HB.out | apply below_alloc | apply pw_below_drewN | apply below_drew1 | refine below_set ?_ GE385.out) | exact HB.out))) | (with_reducible refine Kd.C_alloc ?_ _) | (with_reducible refine Kd.C_drewN ?_ _) | (with_reducible refine Kd.C_drew ?_)))
                        (case side2 => exact HC0_0.out)
                        rintro e w' ⟨rfl, ⟨nd, rfl⟩⟩
                        refine ⟨_, rfl, ?_⟩
                        refine hK.out _ _ ⟨(blk_cell BK385.out 0).trans rfl, (blk_cell BK385.out 1).trans rfl, ((HB.out.cell (World.block_lt_of_cell? w _ hw387_0)).trans hw387_0), ((HB.out.cell (World.block_lt_of_cell? w _ hw388_0)).trans hw388_0)⟩ (fun hHeld => ?_)
                        clear hK K
                        refine norm_ (a' := ?_) ?_ ?_
                        rotate_left
                        · show Act.put _ (some 63) _ = _
                          simp only [Act.put, List.setIfInBounds_toArray, List.set_cons_zero, List.set_cons_succ, i64_w, i32_w]
                          rfl
                        refine pure_ (i := 28) (N := some 64) (v := ?_) (a' := ?_) #[true, true, true, true, true, true, true, true, true, true, true, true, true, true, true, true, true, true, true, true, true, true, true, true, true, true, true, true, true, false] rfl rfl (any_of HT_.out (by kernel_rfl)) (fun _ _ _ h => h) (Or.inl ⟨by rfl, ?_⟩) ?_ ?_
                        rotate_left
                        · intro w'
                          go_simp
                          with_reducible rfl
                        rotate_left
                        · simp only [Act.put, List.setIfInBounds_toArray, List.set_cons_zero, List.set_cons_succ, i64_w, i32_w]
                          rfl
                        refine pure_ (i := 29) (N := some 65) (v := ?_) (a' := ?_) #[true, true, true, true, true, true, true, true, true, true, true, true, true, true, true, true, true, true, true, true, true, true, true, true, true, true, true, true, true, true] rfl rfl (any_of HT_.out (by kernel_rfl)) (fun _ _ _ h => h) (Or.inl ⟨by rfl, ?_⟩) ?_ ?_
                        rotate_left
                        · intro w'
                          go_simp
                          with_reducible rfl
                        rotate_left
                        · simp only [Act.put, List.setIfInBounds_toArray, List.set_cons_zero, List.set_cons_succ, i64_w, i32_w]
                          rfl
                        refine done_ (done_of HT_.out (by kernel_rfl)) ?_
                        try go_wp2
                        go_ret
                        exact ⟨by first | rfl | (simp [errW_none, errW_some] <;> rfl) | (simp only [← hji9, ← hji12]; first | rfl | (simp [errW_none, errW_some] <;> rfl)) | (simp [*, errW_none, errW_some] <;> rfl), by repeat (first | (with_reducible first | exact HB.out | apply below_alloc | apply pw_below_drewN | apply below_drew1 | refine below_set ?_ GE385.out) | exact HB.out)⟩
                    · rw [if_neg c15] at H
                      have c15b0 : ((rd (rd_L1 l0_0 (ji9)) (ji12)) == 1) = false := beq_eq_false_iff_ne.mpr c15
                      have c15b1 : ((rd (rd_L1 l0_0 (ji9)) (ji12)) != 1) = true := bne_iff_ne.mpr c15
                      have H' := Aside0.mk H
                      clear H
                      try go_wp2
                      have n0_ := Aside0.mk (blk_drew BK385.out)
                      have n1_ := Aside0.mk (below_drew1 HB.out)
                      clear BK385
                      clear HB
                      have BK385 := n0_
                      have HB := n1_
                      clear n0_ n1_
                      have p387 : 0 ≤ ((ji9) : Int) := of_decide_eq_true (by first | (with_reducible assumption) | assumption)
                      have q387 : (ji9) < (l0_0.length : Int) := of_decide_eq_true (by first | (with_reducible assumption) | assumption)
                      obtain ⟨ad387, A387_0, c387_0, e387, hx387_0, hl387_0, hi387_0⟩ := at_L1 HR0_0.out (ji9) p387 q387
                      have hw387_0 := hx387_0
                      cases e387
                      replace hx387_0 := (HB.out.cell (World.block_lt_of_cell? w _ hx387_0)).trans hx387_0
                      have HR387_0 := Aside0.mk hi387_0
                      have HC387_0 := Aside0.mk hl387_0
                      clear hi387_0 hl387_0
                      replace p387 := eq_true p387
                      replace q387 := eq_true q387
                      have p388 : 0 ≤ ((ji12) : Int) := of_decide_eq_true (by first | (with_reducible assumption) | assumption)
                      have q388 : (ji12) < ((rd_L1 l0_0 (ji9)).length : Int) := of_decide_eq_true (by first | (with_reducible assumption) | assumption)
                      obtain ⟨ad388, e388, hx388_0⟩ := Kd.at_int HR387_0.out (ji12) p388 q388
                      have hw388_0 := hx388_0
                      cases e388
                      replace hx388_0 := (HB.out.cell (World.block_lt_of_cell? w _ hx388_0)).trans hx388_0
                      replace p388 := eq_true p388
                      replace q388 := eq_true q388
                      refine start_ (n := 30) (S := fun w' => w'.cell? ⟨gb385, 0, none⟩ = some (.slice (some ad387) l0_0.length c0_0) ∧ w'.cell? ⟨gb385, 1, none⟩ = some (.slice A0_1 l0_1.length c0_1) ∧ w'.cell? (ad387.add ((ji9)).toNat) = some (.slice (some ad388) (rd_L1 l0_0 (ji9)).length c387_0) ∧ w'.cell? (ad388.add ((ji12)).toNat) = some (.int .i64 (rd (rd_L1 l0_0 (ji9)) (ji12)))) (ds := []) #[false, false, false, false, false, false, false, false, false, false, false, false, false, false, false, false, false, false, false, false, false, false, false, false, false, false, false, false, false, false] (by kernel_rfl) rfl rfl ⟨(blk_cell BK385.out 0).trans rfl, (blk_cell BK385.out 1).trans rfl, ((HB.out.cell (World.block_lt_of_cell? w _ hw387_0)).trans hw387_0), ((HB.out.cell (World.block_lt_of_cell? w _ hw388_0)).trans hw388_0)⟩ (fun hHeld => ?_); refine with_tabW spec_ModularOk.tab10 spec_ModularOk.bits10 (fun HT_ HW_ => ?_)
                      generalize wr.drew = w23 at BK385 HB HR387_0 hx387_0 hx388_0 hHeld ⊢
                      refine pure_ (i := 0) (N := some 36) (v := ?_) (a' := ?_) #[true, false, false, false, false, false, false, false, false, false, false, false, false, false, false, false, false, false, false, false, false, false, false, false, false, false, false, false, false, false] rfl rfl (any_of HT_.out (by kernel_rfl)) (fun _ _ _ h => h) (Or.inl ⟨by rfl, ?_⟩) ?_ ?_
                      rotate_left
                      · intro w'
                        go_simp
                        with_reducible rfl
                      rotate_left
                      · simp only [Act.put, List.setIfInBounds_toArray, List.set_cons_zero, List.set_cons_succ, i64_w, i32_w]
                        rfl
                      refine pure_ (i := 2) (N := some 38) (v := ?_) (a' := ?_) #[true, false, true, false, false, false, false, false, false, false, false, false, false, false, false, false, false, false, false, false, false, false, false, false, false, false, false, false, false, false] rfl rfl (any_of HT_.out (by kernel_rfl)) (fun _ _ _ h => h) (Or.inl ⟨by rfl, ?_⟩) ?_ ?_
                      rotate_left
                      · intro w'
                        go_simp
                        with_reducible rfl
                      rotate_left
                      · simp only [Act.put, List.setIfInBounds_toArray, List.set_cons_zero, List.set_cons_succ, i64_w, i32_w]
                        rfl
                      refine pure_ (i := 5) (N := some 41) (v := ?_) (a' := ?_) #[true, false, true, false, false, true, false, false, false, false, false, false, false, false, false, false, false, false, false, false, false, false, false, false, false, false, false, false, false, false] rfl rfl (any_of HT_.out (by kernel_rfl)) (fun _ _ _ h => h) (Or.inl ⟨by rfl, ?_⟩) ?_ ?_
                      rotate_left
                      · intro w'
                        go_simp
                        with_reducible rfl
                      rotate_left
                      · simp only [Act.put, List.setIfInBounds_toArray, List.set_cons_zero, List.set_cons_succ, i64_w, i32_w]
                        rfl
                      refine take_ (i := 1) (N := some 37) (v := ?_) (a' := ?_) #[true, true, true, false, false, true, false, false, false, false, false, false, false, false, false, false, false, false, false, false, false, false, false, false, false, false, false, false, false, false] rfl rfl (take_ofW HT_.out HW_.out (by kernel_rfl)) (fun _ _ _ h => h) (Or.inl ⟨by rfl, ?_⟩) hHeld ?_ ?_
                      rotate_left
                      · rintro w' ⟨s0, s1, s2, s3⟩
                        go_simp
                        with_reducible rfl
                      rotate_left
                      · simp only [Act.put, List.setIfInBounds_toArray, List.set_cons_zero, List.set_cons_succ, i64_w, i32_w]
                        rfl
                      refine pure_ (i := 3) (N := some 39) (v := ?_) (a' := ?_) #[true, true, true, true, false, true, false, false, false, false, false, false, false, false, false, false, false, false, false, false, false, false, false, false, false, false, false, false, false, false] rfl rfl (any_of HT_.out (by kernel_rfl)) (fun _ _ _ h => h) (Or.inl ⟨by rfl, ?_⟩) ?_ ?_
                      rotate_left
                      · intro w'
                        go_simp
                        with_reducible rfl
                      rotate_left
                      · simp only [Act.put, List.setIfInBounds_toArray, List.set_cons_zero, List.set_cons_succ, i64_w, i32_w]
                        rfl
                      refine take_ (i := 4) (N := some 40) (v := ?_) (a' := ?_) #[true, true, true, true, true, true, false, false, false, false, false, false, false, false, false, false, false, false, false, false, false, false, false, false, false, false, false, false, false, false] rfl rfl (take_ofW HT_.out HW_.out (by kernel_rfl)) (fun _ _ _ h => h) (Or.inl ⟨by rfl, ?_⟩) hHeld ?_ ?_
                      rotate_left
                      · rintro w' ⟨s0, s1, s2, s3⟩
                        go_simp
                        with_reducible rfl
                      rotate_left
                      · simp only [Act.put, List.setIfInBounds_toArray, List.set_cons_zero, List.set_cons_succ, i64_w, i32_w]
                        rfl
                      refine pure_ (i := 6) (N := some 42) (v := ?_) (a' := ?_) #[true, true, true, true, true, true, true, false, false, false, false, false, false, false, false, false, false, false, false, false, false, false, false, false, false, false, false, false, false, false] rfl rfl (any_of HT_.out (by kernel_rfl)) (fun _ _ _ h => h) (Or.inl ⟨by rfl, ?_⟩) ?_ ?_
                      rotate_left
                      · intro w'
                        go_simp
                        with_reducible rfl
                      rotate_left
                      · simp only [Act.put, List.setIfInBounds_toArray, List.set_cons_zero, List.set_cons_succ, i64_w, i32_w]
                        rfl
                      refine take_ (i := 7) (N := some 43) (v := ?_) (a' := ?_) #[true, true, true, true, true, true, true, true, false, false, false, false, false, false, false, false, false, false, false, false, false, false, false, false, false, false, false, false, false, false] rfl rfl (take_ofW HT_.out HW_.out (by kernel_rfl)) (fun _ _ _ h => h) (Or.inl ⟨by rfl, ?_⟩) hHeld ?_ ?_
                      rotate_left
                      · rintro w' ⟨s0, s1, s2, s3⟩
                        go_simp
                        with_reducible rfl
                      rotate_left
                      · simp only [Act.put, List.setIfInBounds_toArray, List.set_cons_zero, List.set_cons_succ, i64_w, i32_w]
                        rfl
                      refine pure_ (i := 8) (N := some 44) (v := ?_) (a' := ?_) #[true, true, true, true, true, true, true, true, true, false, false, false, false, false, false, false, false, false, false, false, false, false, false, false, false, false, false, false, false, false] rfl rfl (any_of HT_.out (by kernel_rfl)) (fun _ _ _ h => h) (Or.inl ⟨by rfl, ?_⟩) ?_ ?_
                      rotate_left
                      · intro w'
                        go_simp
                        with_reducible rfl
                      rotate_left
                      · simp only [Act.put, List.setIfInBounds_toArray, List.set_cons_zero, List.set_cons_succ, i64_w, i32_w]
                        rfl
                      refine pure_ (i := 9) (N := some 45) (v := ?_) (a' := ?_) #[true, true, true, true, true, true, true, true, true, true, false, false, false, false, false, false, false, false, false, false, false, false, false, false, false, false, false, false, false, false] rfl rfl (any_of HT_.out (by kernel_rfl)) (fun _ _ _ h => h) (Or.inl ⟨by rfl, ?_⟩) ?_ ?_
                      rotate_left
                      · intro w'
                        go_simp
                        with_reducible rfl
                      rotate_left
                      · simp only [Act.put, List.setIfInBounds_toArray, List.set_cons_zero, List.set_cons_succ, i64_w, i32_w]
                        rfl
                      refine pure_ (i := 10) (N := some 46) (v := undef) (a' := ?_) #[true, true, true, true, true, true, true, true, true, true, true, false, false, false, false, false, false, false, false, false, false, false, false, false, false, false, false, false, false, false] rfl rfl (any_of HT_.out (by kernel_rfl)) (fun _ _ _ h => h) (Or.inr ⟨by rfl, rfl⟩) ?_ ?_
                      rotate_left
                      · simp only [Act.put, List.setIfInBounds_toArray, List.set_cons_zero, List.set_cons_succ, i64_w, i32_w]
                        rfl
                      refine pure_ (i := 11) (N := some 47) (v := undef) (a' := ?_) #[true, true, true, true, true, true, true, true, true, true, true, true, false, false, false, false, false, false, false, false, false, false, false, false, false, false, false, false, false, false] rfl rfl (any_of HT_.out (by kernel_rfl)) (fun _ _ _ h => h) (Or.inr ⟨by rfl, rfl⟩) ?_ ?_
                      rotate_left
                      · simp only [Act.put, List.setIfInBounds_toArray, List.set_cons_zero, List.set_cons_succ, i64_w, i32_w]
                        rfl
                      refine pure_ (i := 12) (N := some 48) (v := undef) (a' := ?_) #[true, true, true, true, true, true, true, true, true, true, true, true, true, false, false, false, false, false, false, false, false, false, false, false, false, false, false, false, false, false] rfl rfl (any_of HT_.out (by kernel_rfl)) (fun _ _ _ h => h) (Or.inr ⟨by rfl, rfl⟩) ?_ ?_
                      rotate_left
                      · simp only [Act.put, List.setIfInBounds_toArray, List.set_cons_zero, List.set_cons_succ, i64_w, i32_w]
                        rfl
                      refine pure_ (i := 13) (N := some 49) (v := undef) (a' := ?_) #[true, true, true, true, true, true, true, true, true, true, true, true, true, true, false, false, false, false, false, false, false, false, false, false, false, false, false, false, false, false] rfl rfl (any_of HT_.out (by kernel_rfl)) (fun _ _ _ h => h) (Or.inr ⟨by rfl, rfl⟩) ?_ ?_
                      rotate_left
                      · simp only [Act.put, List.setIfInBounds_toArray, List.set_cons_zero, List.set_cons_succ, i64_w, i32_w]
                        rfl
                      refine pure_ (i := 14) (N := some 50) (v := undef) (a' := ?_) #[true, true, true, true, true, true, true, true, true, true, true, true, true, true, true, false, false, false, false, false, false, false, false, false, false, false, false, false, false, false] rfl rfl (any_of HT_.out (by kernel_rfl)) (fun _ _ _ h => h) (Or.inr ⟨by rfl, rfl⟩) ?_ ?_
                      rotate_left
                      · simp only [Act.put, List.setIfInBounds_toArray, List.set_cons_zero, List.set_cons_succ, i64_w, i32_w]
                        rfl
                      refine pure_ (i := 15) (N := some 51) (v := undef) (a' := ?_) #[true, true, true, true, true, true, true, true, true, true, true, true, true, true, true, true, false, false, false, false, false, false, false, false, false, false, false, false, false, false] rfl rfl (any_of HT_.out (by kernel_rfl)) (fun _ _ _ h => h) (Or.inr ⟨by rfl, rfl⟩) ?_ ?_
                      rotate_left
                      · simp only [Act.put, List.setIfInBounds_toArray, List.set_cons_zero, List.set_cons_succ, i64_w, i32_w]
                        rfl
                      refine pure_ (i := 16) (N := some 52) (v := undef) (a' := ?_) #[true, true, true, true, true, true, true, true, true, true, true, true, true, true, true, true, true, false, false, false, false, false, false, false, false, false, false, false, false, false] rfl rfl (any_of HT_.out (by kernel_rfl)) (fun _ _ _ h => h) (Or.inr ⟨by rfl, rfl⟩) ?_ ?_
                      rotate_left
                      · simp only [Act.put, List.setIfInBounds_toArray, List.set_cons_zero, List.set_cons_succ, i64_w, i32_w]
                        rfl
                      refine pure_ (i := 17) (N := some 53) (v := undef) (a' := ?_) #[true, true, true, true, true, true, true, true, true, true, true, true, true, true, true, true, true, true, false, false, false, false, false, false, false, false, false, false, false, false] rfl rfl (any_of HT_.out (by kernel_rfl)) (fun _ _ _ h => h) (Or.inr ⟨by rfl, rfl⟩) ?_ ?_
                      rotate_left
                      · simp only [Act.put, List.setIfInBounds_toArray, List.set_cons_zero, List.set_cons_succ, i64_w, i32_w]
                        rfl
                      refine pure_ (i := 18) (N := some 54) (v := undef) (a' := ?_) #[true, true, true, true, true, true, true, true, true, true, true, true, true, true, true, true, true, true, true, false, false, false, false, false, false, false, false, false, false, false] rfl rfl (any_of HT_.out (by kernel_rfl)) (fun _ _ _ h => h) (Or.inr ⟨by rfl, rfl⟩) ?_ ?_
                      rotate_left
                      · simp only [Act.put, List.setIfInBounds_toArray, List.set_cons_zero, List.set_cons_succ, i64_w, i32_w]
                        rfl
                      refine pure_ (i := 19) (N := some 55) (v := undef) (a' := ?_) #[true, true, true, true, true, true, true, true, true, true, true, true, true, true, true, true, true, true, true, true, false, false, false, false, false, false, false, false, false, false] rfl rfl (any_of HT_.out (by kernel_rfl)) (fun _ _ _ h => h) (Or.inr ⟨by rfl, rfl⟩) ?_ ?_
                      rotate_left
                      · simp only [Act.put, List.setIfInBounds_toArray, List.set_cons_zero, List.set_cons_succ, i64_w, i32_w]
                        rfl
                      refine pure_ (i := 20) (N := some 56) (v := undef) (a' := ?_) #[true, true, true, true, true, true, true, true, true, true, true, true, true, true, true, true, true, true, true, true, true, false, false, false, false, false, false, false, false, false] rfl rfl (any_of HT_.out (by kernel_rfl)) (fun _ _ _ h => h) (Or.inr ⟨by rfl, rfl⟩) ?_ ?_
                      rotate_left
                      · simp only [Act.put, List.setIfInBounds_toArray, List.set_cons_zero, List.set_cons_succ, i64_w, i32_w]
                        rfl
                      refine pure_ (i := 21) (N := some 57) (v := undef) (a' := ?_) #[true, true, true, true, true, true, true, true, true, true, true, true, true, true, true, true, true, true, true, true, true, true, false, false, false, false, false, false, false, false] rfl rfl (any_of HT_.out (by kernel_rfl)) (fun _ _ _ h => h) (Or.inr ⟨by rfl, rfl⟩) ?_ ?_
                      rotate_left
                      · simp only [Act.put, List.setIfInBounds_toArray, List.set_cons_zero, List.set_cons_succ, i64_w, i32_w]
                        rfl
                      refine pure_ (i := 22) (N := some 58) (v := undef) (a' := ?_) #[true, true, true, true, true, true, true, true, true, true, true, true, true, true, true, true, true, true, true, true, true, true, true, false, false, false, false, false, false, false] rfl rfl (any_of HT_.out (by kernel_rfl)) (fun _ _ _ h => h) (Or.inr ⟨by rfl, rfl⟩) ?_ ?_
                      rotate_left
                      · simp only [Act.put, List.setIfInBounds_toArray, List.set_cons_zero, List.set_cons_succ, i64_w, i32_w]
                        rfl
                      refine pure_ (i := 23) (N := some 59) (v := undef) (a' := ?_) #[true, true, true, true, true, true, true, true, true, true, true, true, true, true, true, true, true, true, true, true, true, true, true, true, false, false, false, false, false, false] rfl rfl (any_of HT_.out (by kernel_rfl)) (fun _ _ _ h => h) (Or.inr ⟨by rfl, rfl⟩) ?_ ?_
                      rotate_left
                      · simp only [Act.put, List.setIfInBounds_toArray, List.set_cons_zero, List.set_cons_succ, i64_w, i32_w]
                        rfl
                      refine pure_ (i := 24) (N := some 60) (v := undef) (a' := ?_) #[true, true, true, true, true, true, true, true, true, true, true, true, true, true, true, true, true, true, true, true, true, true, true, true, true, false, false, false, false, false] rfl rfl (any_of HT_.out (by kernel_rfl)) (fun _ _ _ h => h) (Or.inr ⟨by rfl, rfl⟩) ?_ ?_
                      rotate_left
                      · simp only [Act.put, List.setIfInBounds_toArray, List.set_cons_zero, List.set_cons_succ, i64_w, i32_w]
                        rfl
                      refine pure_ (i := 25) (N := some 61) (v := undef) (a' := ?_) #[true, true, true, true, true, true, true, true, true, true, true, true, true, true, true, true, true, true, true, true, true, true, true, true, true, true, false, false, false, false] rfl rfl (any_of HT_.out (by kernel_rfl)) (fun _ _ _ h => h) (Or.inr ⟨by rfl, rfl⟩) ?_ ?_
                      rotate_left
                      · simp only [Act.put, List.setIfInBounds_toArray, List.set_cons_zero, List.set_cons_succ, i64_w, i32_w]
                        rfl
                      refine pure_ (i := 26) (N := some 62) (v := undef) (a' := ?_) #[true, true, true, true, true, true, true, true, true, true, true, true, true, true, true, true, true, true, true, true, true, true, true, true, true, true, true, false, false, false] rfl rfl (any_of HT_.out (by kernel_rfl)) (fun _ _ _ h => h) (Or.inr ⟨by rfl, rfl⟩) ?_ ?_
                      rotate_left
                      · simp only [Act.put, List.setIfInBounds_toArray, List.set_cons_zero, List.set_cons_succ, i64_w, i32_w]
                        rfl
                      refine pure_ (i := 27) (N := some 63) (v := undef) (a' := ?_) #[true, true, true, true, true, true, true, true, true, true, true, true, true, true, true, true, true, true, true, true, true, true, true, true, true, true, true, true, false, false] rfl rfl (any_of HT_.out (by kernel_rfl)) (fun _ _ _ h => h) (Or.inr ⟨by rfl, rfl⟩) ?_ ?_
                      rotate_left
                      · simp only [Act.put, List.setIfInBounds_toArray, List.set_cons_zero, List.set_cons_succ, i64_w, i32_w]
                        rfl
                      refine pure_ (i := 28) (N := some 64) (v := undef) (a' := ?_) #[true, true, true, true, true, true, true, true, true, true, true, true, true, true, true, true, true, true, true, true, true, true, true, true, true, true, true, true, true, false] rfl rfl (any_of HT_.out (by kernel_rfl)) (fun _ _ _ h => h) (Or.inr ⟨by rfl, rfl⟩) ?_ ?_
                      rotate_left
                      · simp only [Act.put, List.setIfInBounds_toArray, List.set_cons_zero, List.set_cons_succ, i64_w, i32_w]
                        rfl
                      refine pure_ (i := 29) (N := some 65) (v := ?_) (a' := ?_) #[true, true, true, true, true, true, true, true, true, true, true, true, true, true, true, true, true, true, true, true, true, true, true, true, true, true, true, true, true, true] rfl rfl (any_of HT_.out (by kernel_rfl)) (fun _ _ _ h => h) (Or.inl ⟨by rfl, ?_⟩) ?_ ?_
                      rotate_left
                      · intro w'
                        go_simp
                        with_reducible rfl
                      rotate_left
                      · simp only [Act.put, List.setIfInBounds_toArray, List.set_cons_zero, List.set_cons_succ, i64_w, i32_w]
                        rfl
                      refine done_ (done_of HT_.out (by kernel_rfl)) ?_
                      try go_wp2
                      go_roundg k1
                      case measure => have := HK1.out; omega
                      case rel => exact ⟨(wrap64 (x4_1 + 1)), (by first | rfl | (simp; done) | (simp [*]; done)), H', ⟨by have := HK1.out; omega⟩, ⟨by (with_reducible repeat (first | refine blk_drewN ?_ _ | refine blk_drew ?_ | refine blk_alloc ?_ _)); exact BK385.out⟩, ⟨by repeat (first | (with_reducible first | exact HB.out | apply below_alloc | apply pw_below_drewN | apply below_drew1 | refine below_set ?_ GE385.out) | exact HB.out)⟩⟩
                  · rw [if_neg c14] at H
                    exact absurd H (by simp)
                · rw [if_neg c13] at H
                  exact absurd H (by simp)
              · rw [if_neg c11] at H
                exact absurd H (by simp)
            · rw [if_neg c10] at H
              exact absurd H (by simp)
        · rw [if_neg c7] at H
          have c7b0 : decide (x4_1 < (wrap64 ((wrap64 ((l0_1.length : Int) * (l0_1.length : Int))) * (l0_1.length : Int)))) = false := decide_eq_false c7
          clear c7
          obtain rfl := Option.some.inj H
          go_wp2
          go_ret
          exact ⟨by first | rfl | (simp [errW_none, errW_some] <;> rfl) | (simp [*, errW_none, errW_some] <;> rfl), by repeat (first | (with_reducible first | exact HB.out | apply below_alloc | apply pw_below_drewN | apply below_drew1 | refine below_set ?_ GE385.out) | exact HB.out)⟩
  · replace c3 := Bool.eq_false_iff.mpr c3
    subst c3
    have H1 : (some false) = some r := by rw [if_neg (show ¬ (false = true) by decide)] at H; exact H
    clear H
    have H := H1
    clear H1
    obtain rfl := Option.some.inj H
    go_enter Try.func28, Try.ntmps28
    go_wp2_with (first | ((with_reducible refine gate_dst (N := 1) rfl ?_); refine box_event ?hg (N := 1) ?hd (cs := #[.slice A0_0 l0_0.length c0_0, .slice A0_1 l0_1.length c0_1]) (t := 29) ?hr ?_; (case hd => rfl); (case hg => rfl); (case hr => first | (go_simp; done) | (go_simp; rfl)); intro gb385 hg w24 hbox hb; have n0_ := Aside0.mk (below_step (by repeat (first | (with_reducible first | exact HB.out | apply below_alloc | apply pw_below_drewN | apply below_drew1) | exact HB.out)) hb); have n1_ := Aside0.mk (hbox); have n2_ := Aside0.mk ((by rw [hg]; exact (below_size (by repeat (first | (with_reducible first | exact HB.out | apply below_alloc | apply pw_below_drewN | apply below_drew1) | exact HB.out))) : w.heap.size ≤ gb385)); have n3_ := Aside0.mk ((by rw [hg]; exact (below_size (by repeat (first | (with_reducible first | exact HB.out | apply below_alloc | apply pw_below_drewN | apply below_drew1) | exact HB.out))) : w.heap.size ≤ gb385)); clear HB; have HB := n0_; have BK385 := n1_; have GW385 := n2_; have GE385 := n3_; clear n0_ n1_ n2_ n3_; clear hb hbox hg; have hcz25_0 : w24.cell? ⟨gb385, 0, none⟩ = some (.slice A0_0 l0_0.length c0_0) := (blk_cell BK385.out 0).trans rfl; have hcz25_1 : w24.cell? ⟨gb385, 1, none⟩ = some (.slice A0_1 l0_1.length c0_1) := (blk_cell BK385.out 1).trans rfl; have hfz25_0 := blk_frozen BK385.out 0; have hfz25_1 := blk_frozen BK385.out 1) | ((with_reducible refine gate_callee (f := 59) rfl ?_); refine goesL_ (some 12) rfl rfl Try.func59 (by kernel_rfl) rfl #[.agg #[.slice A0_0 l0_0.length c0_0, .slice A0_1 l0_1.length c0_1]] rfl (by (try simp only [List.map_toArray, List.map_cons, List.map_nil]); first | done | rfl | (simp only [List.length_drop, List.length_take]; rfl)) ?_; (with_reducible refine (spec_LogicOk.calls k _ _ l0_0 _ _ l0_1 false _ ?side1 ?side2 ?side3 ?side4 A2.out).mono ?_); (case side1 => repeat (first | exact (Kd.C_below HR0_0.out HB.out) | (with_reducible refine Kd.C_alloc ?_ _) | (with_reducible refine Kd.C_drewN ?_ _) | (with_reducible refine Kd.C_drew ?_))); (case side2 => exact HC0_0.out); (case side3 => repeat (first | exact (Kd.C_below HR0_1.out HB.out) | (with_reducible refine Kd.C_alloc ?_ _) | (with_reducible refine Kd.C_drewN ?_ _) | (with_reducible refine Kd.C_drew ?_))); (case side4 => exact HC0_1.out); rintro e w26 ⟨rfl, hb⟩; refine ⟨_, rfl, ?_⟩; have n0_ := Aside0.mk (blk_below (g := gb385) (o := .cells #[.slice A0_0 l0_0.length c0_0, .slice A0_1 l0_1.length c0_1] 29 (0, 0)) (by (with_reducible repeat (first | refine blk_drewN ?_ _ | refine blk_drew ?_ | refine blk_alloc ?_ _)); exact BK385.out) hb); have n1_ := Aside0.mk (below_step (by repeat (first | (with_reducible first | exact HB.out | apply below_alloc | apply pw_below_drewN | apply below_drew1 | refine below_set ?_ GE385.out) | exact HB.out)) hb); clear BK385; clear HB; have BK385 := n0_; have HB := n1_; clear n0_ n1_; (try clear hb); (try clear hb2); (try clear hk); (try clear hi)))
    go_ret
    exact ⟨by first | rfl | (simp [errW_none, errW_some] <;> rfl) | (simp [*, errW_none, errW_some] <;> rfl), by repeat (first | (with_reducible first | exact HB.out | apply below_alloc | apply pw_below_drewN | apply below_drew1 | refine below_set ?_ GE385.out) | exact HB.out)⟩
end Go.Proofs.Ytjoadckkdophnaa.Print
end
