/- Part 5 of what this is proved by: The program's AddsUpOk returns what the reference's returns, for all arguments. No condition. -/
import Derived.Test.YtjoadckkdophnaaKAdds4
import Derived.Below
import Derived.Deep.Draws
import Derived.Deep.AppendLies
import Derived.Maps.AppendAt
import Derived.OwnWalk
import Derived.Laws.BytesArg
import Derived.Laws.MakeOwn
import Derived.Laws.OwnMore
import Derived.Deep.OwnRows
import Derived.Tactics
import Derived.Lib.ConvBytes
import Derived.Laws.Slices
import Derived.WalkKit
import Derived.KernelRfl
import Derived.RowKit3
import Derived.Deep.LoopGhost
import Derived.Deep.QuietTactic
import Derived.BigQuiet
import Derived.WideLaws
import Derived.Deep.DeepCutAuto
import Derived.Deep.CutBlock
import Derived.Deep.RegionHeld3
import Derived.Laws.Rows
import Derived.Lib.AppendStr
import Derived.ArgAppend
import Derived.Laws.IdiomCopy
import Derived.RowKit
import Derived.OrdersHeld
import Derived.Laws.BitsLemmas
import Derived.Test.YtjoadckkdophnaaProg
import Derived.Deep.Matrix
import Derived.Lib.SmallJoins
section
namespace Go.Proofs.Ytjoadckkdophnaa.Print
open Go.RowKit Go.Proofs.YtjoadckkdophnaaW.PrintWords Go.Proofs.YtjoadckkdophnaaW.PrintLast Go.Proofs.YtjoadckkdophnaaW.PrintMore
set_option linter.unusedVariables false
set_option linter.unusedSimpArgs false
open Oml
def Best (n : Nat) (lb : Nat → Bool) (le : Nat → Nat → Bool) (i : Nat) (x : Int) : Prop :=
  (x = -1 ∧ ∀ j, j < i → lb j = false) ∨ ∃ c : Nat, x = c ∧ c < i ∧ lb c = true ∧ ∀ j, j < i → lb j = true → (∀ d, d < n → lb d = true → le d j = true) → j = c
theorem Best.zero {n : Nat} {lb : Nat → Bool} {le : Nat → Nat → Bool} : Best n lb le 0 (-1) := .inl ⟨rfl, fun _ h => absurd h (Nat.not_lt_zero _)⟩
theorem Best.skip {n i : Nat} {lb : Nat → Bool} {le : Nat → Nat → Bool} {x : Int} (h : Best n lb le i x) (hi : lb i = false) : Best n lb le (i + 1) x := by
  rcases h with ⟨h1, h2⟩ | ⟨c, h1, h2, h3, h4⟩
  · refine .inl ⟨h1, fun j hj => ?_⟩
    rcases Nat.lt_or_ge j i with h | h
    · exact h2 j h
    · obtain rfl : j = i := by omega
      exact hi
  · refine .inr ⟨c, h1, by omega, h3, fun j hj k1 k2 => ?_⟩
    rcases Nat.lt_or_ge j i with h | h
    · exact h4 j h k1 k2
    · obtain rfl : j = i := by omega
      rw [hi] at k1; exact absurd k1 (by simp)
theorem Best.first {n i : Nat} {lb : Nat → Bool} {le : Nat → Nat → Bool} (h : Best n lb le i (-1)) (hi : lb i = true) : Best n lb le (i + 1) (i : Int) := by
  rcases h with ⟨h1, h2⟩ | ⟨c, h1, h2, h3, h4⟩
  · refine .inr ⟨i, rfl, by omega, hi, fun j hj k1 _ => ?_⟩
    rcases Nat.lt_or_ge j i with h | h
    · rw [h2 j h] at k1; exact absurd k1 (by simp)
    · omega
  · omega
theorem Best.up {n i c : Nat} {lb : Nat → Bool} {le : Nat → Nat → Bool} (ha : ∀ a b, a < n → b < n → le a b = true → le b a = true → a = b) (hn : i < n) (h : Best n lb le i (c : Int)) (hi : lb i = true) (hc : le c i = true) : Best n lb le (i + 1) (i : Int) := by
  rcases h with ⟨h1, h2⟩ | ⟨c', h1, h2, h3, h4⟩
  · omega
  · obtain rfl : c = c' := by omega
    refine .inr ⟨i, rfl, by omega, hi, fun j hj k1 k2 => ?_⟩
    rcases Nat.lt_or_ge j i with h | h
    · obtain rfl := h4 j h k1 k2
      exact ha j i (by omega) hn hc (k2 i hn hi)
    · omega
theorem Best.stay {n i c : Nat} {lb : Nat → Bool} {le : Nat → Nat → Bool} (hn : i < n) (h : Best n lb le i (c : Int)) (hc : le c i = false) : Best n lb le (i + 1) (c : Int) := by
  rcases h with ⟨h1, h2⟩ | ⟨c', h1, h2, h3, h4⟩
  · omega
  · obtain rfl : c = c' := by omega
    refine .inr ⟨c, rfl, by omega, h3, fun j hj k1 k2 => ?_⟩
    rcases Nat.lt_or_ge j i with h | h
    · exact h4 j h k1 k2
    · obtain rfl : j = i := by omega
      have := k2 c (by omega) h3
      rw [hc] at this; exact absurd this (by simp)
section
variable {U : List (List Int)} (O : Order U)
include O
theorem spec_l1Meet.ev {a b : Nat} (ha : a < U.length) (hb : b < U.length) : Ev (fun k => spec_l1Meet.f k U a b) (mI U a b) := by
  have hs := O.small
  unfold spec_l1Meet.f
  refine Ev.loop (g := fun k s i => spec_l1Meet.l0 k U a b s i) U.length (Best U.length (fun i => leB U i a && leB U i b) (leB U)) (by omega) (fun s h => ?_) (fun i s hi h => ?_) (-1) Best.zero
  · refine Ev.succ ?_
    simp only [spec_l1Meet.l0]
    repeat (first | ((with_reducible refine Ev.ite_pos ?_ ?_); (first | assumption | (focus omega) | (focus (simp; done)))) | ((with_reducible refine Ev.ite_neg ?_ ?_); (first | assumption | (focus omega) | (focus (simp; done)))))
    rcases h with ⟨rfl, h⟩ | ⟨c, rfl, hc, h1, h2⟩
    · have e : meetO U a b = none := findN_none.2 fun i hi => by
        have : (leB U i a && leB U i b) = false := h i hi
        unfold meetP; rw [← Bool.and_assoc, this]; rfl
      unfold mI
      rw [e]
      refine Ev.eq (Ev.all (n := U.length) (g := fun k i => spec_l1Meet.l1 k U a b (-1) i) (fun _ => true) (go := -1) (stop := -1) (by omega) (fun _ => ?_) fun i hi _ R hR => ?_) (by split <;> rfl)
      · refine Ev.succ ?_
        simp only [spec_l1Meet.l1]
        repeat (first | ((with_reducible refine Ev.ite_pos ?_ ?_); (first | assumption | (focus omega) | (focus (simp; done)))) | ((with_reducible refine Ev.ite_neg ?_ ?_); (first | assumption | (focus omega) | (focus (simp; done)))))
        exact Ev.now _
      · refine Ev.succ ?_
        have hrow := O.row i hi
        have va := O.val hi ha
        have vb := O.val hi hb
        have hab : (leB U i a && leB U i b) = false := h i hi
        simp only [spec_l1Meet.l1, rdL_nat, rd_nat, rd_row, hrow, va, vb]
        repeat (first | ((with_reducible refine Ev.ite_pos ?_ ?_); (first | assumption | (focus omega) | (focus (simp; done)))) | ((with_reducible refine Ev.ite_neg ?_ ?_); (first | assumption | (focus omega) | (focus (simp; done)))))
        cases xa : leB U i a with
        | false => repeat (first | ((with_reducible refine Ev.ite_pos ?_ ?_); (first | assumption | (focus omega) | (focus (simp; done)))) | ((with_reducible refine Ev.ite_neg ?_ ?_); (first | assumption | (focus omega) | (focus (simp; done)))))
                   exact hR rfl
        | true =>
          cases xb : leB U i b with
          | false => repeat (first | ((with_reducible refine Ev.ite_pos ?_ ?_); (first | assumption | (focus omega) | (focus (simp; done)))) | ((with_reducible refine Ev.ite_neg ?_ ?_); (first | assumption | (focus omega) | (focus (simp; done)))))
                     exact hR rfl
          | true => rw [xa, xb] at hab; exact absurd hab (by simp)
    · replace h1 : (leB U c a && leB U c b) = true := h1
      refine Ev.eq (Ev.all (n := U.length) (g := fun k i => spec_l1Meet.l1 k U a b c i) (fun d => !(leB U d a && leB U d b) || leB U d c) (go := (c : Int)) (stop := -1) (by omega) (fun _ => ?_) fun i hi _ R hR => ?_) ?_
      · refine Ev.succ ?_
        simp only [spec_l1Meet.l1]
        repeat (first | ((with_reducible refine Ev.ite_pos ?_ ?_); (first | assumption | (focus omega) | (focus (simp; done)))) | ((with_reducible refine Ev.ite_neg ?_ ?_); (first | assumption | (focus omega) | (focus (simp; done)))))
        exact Ev.now _
      · refine Ev.succ ?_
        have hrow := O.row i hi
        have va := O.val hi ha
        have vb := O.val hi hb
        have vc := O.val hi hc
        simp only [spec_l1Meet.l1, rdL_nat, rd_nat, rd_row, hrow, va, vb, vc]
        repeat (first | ((with_reducible refine Ev.ite_pos ?_ ?_); (first | assumption | (focus omega) | (focus (simp; done)))) | ((with_reducible refine Ev.ite_neg ?_ ?_); (first | assumption | (focus omega) | (focus (simp; done)))))
        cases xa : leB U i a with
        | false => repeat (first | ((with_reducible refine Ev.ite_pos ?_ ?_); (first | assumption | (focus omega) | (focus (simp; done)))) | ((with_reducible refine Ev.ite_neg ?_ ?_); (first | assumption | (focus omega) | (focus (simp; done)))))
                   exact hR (by simp [xa])
        | true =>
          repeat (first | ((with_reducible refine Ev.ite_pos ?_ ?_); (first | assumption | (focus omega) | (focus (simp; done)))) | ((with_reducible refine Ev.ite_neg ?_ ?_); (first | assumption | (focus omega) | (focus (simp; done)))))
          cases xb : leB U i b with
          | false => repeat (first | ((with_reducible refine Ev.ite_pos ?_ ?_); (first | assumption | (focus omega) | (focus (simp; done)))) | ((with_reducible refine Ev.ite_neg ?_ ?_); (first | assumption | (focus omega) | (focus (simp; done)))))
                     exact hR (by simp [xa, xb])
          | true =>
            repeat (first | ((with_reducible refine Ev.ite_pos ?_ ?_); (first | assumption | (focus omega) | (focus (simp; done)))) | ((with_reducible refine Ev.ite_neg ?_ ?_); (first | assumption | (focus omega) | (focus (simp; done)))))
            cases xc : leB U i c with
            | false => repeat (first | ((with_reducible refine Ev.ite_pos ?_ ?_); (first | assumption | (focus omega) | (focus (simp; done)))) | ((with_reducible refine Ev.ite_neg ?_ ?_); (first | assumption | (focus omega) | (focus (simp; done)))))
                       exact Ev.now _
            | true => repeat (first | ((with_reducible refine Ev.ite_pos ?_ ?_); (first | assumption | (focus omega) | (focus (simp; done)))) | ((with_reducible refine Ev.ite_neg ?_ ?_); (first | assumption | (focus omega) | (focus (simp; done)))))
                      exact hR (by simp [xc])
      · unfold mI
        have hP : meetP U a b c = allN U.length fun d => !(leB U d a && leB U d b) || leB U d c := by unfold meetP; rw [← Bool.and_assoc, h1]; rfl
        rw [← hP]
        cases hp : meetP U a b c with
        | true => rw [O.meet_eq hc hp]; rfl
        | false =>
          cases e : meetO U a b with
          | none => rfl
          | some m =>
            obtain ⟨k1, k2⟩ := findN_some e
            obtain ⟨q1, q2, q3⟩ := meetP_iff.1 k2
            have := h2 m k1 (by simp [q1, q2]) fun d hd kd => by
              rw [Bool.and_eq_true] at kd
              exact q3 d hd kd.1 kd.2
            rw [← this, k2] at hp
            exact absurd hp (by simp)
  · have hrow := O.row i hi
    have va := O.val hi ha
    have vb := O.val hi hb
    cases xa : leB U i a with
    | false =>
      refine ⟨s, h.skip (by simp [xa]), fun K => Ev.succ ?_⟩
      rw [xa] at va
      simp only [spec_l1Meet.l0, rdL_nat, rd_nat, rd_row, hrow, va, vb]
      repeat (first | ((with_reducible refine Ev.ite_pos ?_ ?_); (first | assumption | (focus omega) | (focus (simp; done)))) | ((with_reducible refine Ev.ite_neg ?_ ?_); (first | assumption | (focus omega) | (focus (simp; done)))))
      exact K
    | true =>
      cases xb : leB U i b with
      | false =>
        refine ⟨s, h.skip (by simp [xb]), fun K => Ev.succ ?_⟩
        rw [xa] at va; rw [xb] at vb
        simp only [spec_l1Meet.l0, rdL_nat, rd_nat, rd_row, hrow, va, vb]
        repeat (first | ((with_reducible refine Ev.ite_pos ?_ ?_); (first | assumption | (focus omega) | (focus (simp; done)))) | ((with_reducible refine Ev.ite_neg ?_ ?_); (first | assumption | (focus omega) | (focus (simp; done)))))
        exact K
      | true =>
        rw [xa] at va; rw [xb] at vb
        by_cases hneg : s = -1
        · subst hneg
          refine ⟨(i : Int), h.first (by simp [xa, xb]), fun K => Ev.succ ?_⟩
          simp only [spec_l1Meet.l0, rdL_nat, rd_nat, rd_row, hrow, va, vb]
          repeat (first | ((with_reducible refine Ev.ite_pos ?_ ?_); (first | assumption | (focus omega) | (focus (simp; done)))) | ((with_reducible refine Ev.ite_neg ?_ ?_); (first | assumption | (focus omega) | (focus (simp; done)))))
          exact K
        · obtain ⟨c, rfl, hc⟩ : ∃ c : Nat, s = c ∧ c < i := by
            rcases h with ⟨h1, _⟩ | ⟨c, h1, h2, _⟩
            · exact absurd h1 hneg
            · exact ⟨c, h1, h2⟩
          have vc := O.val (show c < U.length by omega) hi
          have hrowc := O.row c (by omega)
          cases xc : leB U c i with
          | true =>
            refine ⟨(i : Int), h.up O.anti hi (by simp [xa, xb]) xc, fun K => Ev.succ ?_⟩
            rw [xc] at vc
            simp only [spec_l1Meet.l0, rdL_nat, rd_nat, rd_row, hrow, hrowc, va, vb, vc]
            repeat (first | ((with_reducible refine Ev.ite_pos ?_ ?_); (first | assumption | (focus omega) | (focus (simp; done)))) | ((with_reducible refine Ev.ite_neg ?_ ?_); (first | assumption | (focus omega) | (focus (simp; done)))))
            exact K
          | false =>
            refine ⟨(c : Int), h.stay hi xc, fun K => Ev.succ ?_⟩
            rw [xc] at vc
            simp only [spec_l1Meet.l0, rdL_nat, rd_nat, rd_row, hrow, hrowc, va, vb, vc]
            repeat (first | ((with_reducible refine Ev.ite_pos ?_ ?_); (first | assumption | (focus omega) | (focus (simp; done)))) | ((with_reducible refine Ev.ite_neg ?_ ?_); (first | assumption | (focus omega) | (focus (simp; done)))))
            exact K
theorem spec_l1Join.ev {a b : Nat} (ha : a < U.length) (hb : b < U.length) : Ev (fun k => spec_l1Join.f k U a b) (jI U a b) := by
  have hs := O.small
  have hra := O.row a ha
  have hrb := O.row b hb
  unfold spec_l1Join.f
  refine Ev.loop (g := fun k s i => spec_l1Join.l0 k U a b s i) U.length (Best U.length (fun i => leB U a i && leB U b i) (fun x y => leB U y x)) (by omega) (fun s h => ?_) (fun i s hi h => ?_) (-1) Best.zero
  · refine Ev.succ ?_
    simp only [spec_l1Join.l0]
    repeat (first | ((with_reducible refine Ev.ite_pos ?_ ?_); (first | assumption | (focus omega) | (focus (simp; done)))) | ((with_reducible refine Ev.ite_neg ?_ ?_); (first | assumption | (focus omega) | (focus (simp; done)))))
    rcases h with ⟨rfl, h⟩ | ⟨c, rfl, hc, h1, h2⟩
    · have e : joinO U a b = none := findN_none.2 fun i hi => by
        have : (leB U a i && leB U b i) = false := h i hi
        unfold joinP; rw [← Bool.and_assoc, this]; rfl
      unfold jI
      rw [e]
      refine Ev.eq (Ev.all (n := U.length) (g := fun k i => spec_l1Join.l1 k U a b (-1) i) (fun _ => true) (go := -1) (stop := -1) (by omega) (fun _ => ?_) fun i hi _ R hR => ?_) (by split <;> rfl)
      · refine Ev.succ ?_
        simp only [spec_l1Join.l1]
        repeat (first | ((with_reducible refine Ev.ite_pos ?_ ?_); (first | assumption | (focus omega) | (focus (simp; done)))) | ((with_reducible refine Ev.ite_neg ?_ ?_); (first | assumption | (focus omega) | (focus (simp; done)))))
        exact Ev.now _
      · refine Ev.succ ?_
        have va := O.val ha hi
        have vb := O.val hb hi
        have hab : (leB U a i && leB U b i) = false := h i hi
        simp only [spec_l1Join.l1, rdL_nat, rd_nat, rd_row, hra, hrb, va, vb]
        repeat (first | ((with_reducible refine Ev.ite_pos ?_ ?_); (first | assumption | (focus omega) | (focus (simp; done)))) | ((with_reducible refine Ev.ite_neg ?_ ?_); (first | assumption | (focus omega) | (focus (simp; done)))))
        cases xa : leB U a i with
        | false => repeat (first | ((with_reducible refine Ev.ite_pos ?_ ?_); (first | assumption | (focus omega) | (focus (simp; done)))) | ((with_reducible refine Ev.ite_neg ?_ ?_); (first | assumption | (focus omega) | (focus (simp; done)))))
                   exact hR rfl
        | true =>
          cases xb : leB U b i with
          | false => repeat (first | ((with_reducible refine Ev.ite_pos ?_ ?_); (first | assumption | (focus omega) | (focus (simp; done)))) | ((with_reducible refine Ev.ite_neg ?_ ?_); (first | assumption | (focus omega) | (focus (simp; done)))))
                     exact hR rfl
          | true => rw [xa, xb] at hab; exact absurd hab (by simp)
    · have hrc := O.row c hc
      replace h1 : (leB U a c && leB U b c) = true := h1
      refine Ev.eq (Ev.all (n := U.length) (g := fun k i => spec_l1Join.l1 k U a b c i) (fun d => !(leB U a d && leB U b d) || leB U c d) (go := (c : Int)) (stop := -1) (by omega) (fun _ => ?_) fun i hi _ R hR => ?_) ?_
      · refine Ev.succ ?_
        simp only [spec_l1Join.l1]
        repeat (first | ((with_reducible refine Ev.ite_pos ?_ ?_); (first | assumption | (focus omega) | (focus (simp; done)))) | ((with_reducible refine Ev.ite_neg ?_ ?_); (first | assumption | (focus omega) | (focus (simp; done)))))
        exact Ev.now _
      · refine Ev.succ ?_
        have va := O.val ha hi
        have vb := O.val hb hi
        have vc := O.val hc hi
        simp only [spec_l1Join.l1, rdL_nat, rd_nat, rd_row, hra, hrb, hrc, va, vb, vc]
        repeat (first | ((with_reducible refine Ev.ite_pos ?_ ?_); (first | assumption | (focus omega) | (focus (simp; done)))) | ((with_reducible refine Ev.ite_neg ?_ ?_); (first | assumption | (focus omega) | (focus (simp; done)))))
        cases xa : leB U a i with
        | false => repeat (first | ((with_reducible refine Ev.ite_pos ?_ ?_); (first | assumption | (focus omega) | (focus (simp; done)))) | ((with_reducible refine Ev.ite_neg ?_ ?_); (first | assumption | (focus omega) | (focus (simp; done)))))
                   exact hR (by simp [xa])
        | true =>
          repeat (first | ((with_reducible refine Ev.ite_pos ?_ ?_); (first | assumption | (focus omega) | (focus (simp; done)))) | ((with_reducible refine Ev.ite_neg ?_ ?_); (first | assumption | (focus omega) | (focus (simp; done)))))
          cases xb : leB U b i with
          | false => repeat (first | ((with_reducible refine Ev.ite_pos ?_ ?_); (first | assumption | (focus omega) | (focus (simp; done)))) | ((with_reducible refine Ev.ite_neg ?_ ?_); (first | assumption | (focus omega) | (focus (simp; done)))))
                     exact hR (by simp [xa, xb])
          | true =>
            repeat (first | ((with_reducible refine Ev.ite_pos ?_ ?_); (first | assumption | (focus omega) | (focus (simp; done)))) | ((with_reducible refine Ev.ite_neg ?_ ?_); (first | assumption | (focus omega) | (focus (simp; done)))))
            cases xc : leB U c i with
            | false => repeat (first | ((with_reducible refine Ev.ite_pos ?_ ?_); (first | assumption | (focus omega) | (focus (simp; done)))) | ((with_reducible refine Ev.ite_neg ?_ ?_); (first | assumption | (focus omega) | (focus (simp; done)))))
                       exact Ev.now _
            | true => repeat (first | ((with_reducible refine Ev.ite_pos ?_ ?_); (first | assumption | (focus omega) | (focus (simp; done)))) | ((with_reducible refine Ev.ite_neg ?_ ?_); (first | assumption | (focus omega) | (focus (simp; done)))))
                      exact hR (by simp [xc])
      · unfold jI
        have hP : joinP U a b c = allN U.length fun d => !(leB U a d && leB U b d) || leB U c d := by unfold joinP; rw [← Bool.and_assoc, h1]; rfl
        rw [← hP]
        cases hp : joinP U a b c with
        | true => rw [O.join_eq hc hp]; rfl
        | false =>
          cases e : joinO U a b with
          | none => rfl
          | some m =>
            obtain ⟨k1, k2⟩ := findN_some e
            obtain ⟨q1, q2, q3⟩ := joinP_iff.1 k2
            have := h2 m k1 (by simp [q1, q2]) fun d hd kd => by
              rw [Bool.and_eq_true] at kd
              exact q3 d hd kd.1 kd.2
            rw [← this, k2] at hp
            exact absurd hp (by simp)
  · have hrow := O.row i hi
    have va := O.val ha hi
    have vb := O.val hb hi
    cases xa : leB U a i with
    | false =>
      refine ⟨s, h.skip (by simp [xa]), fun K => Ev.succ ?_⟩
      rw [xa] at va
      simp only [spec_l1Join.l0, rdL_nat, rd_nat, rd_row, hra, hrb, va, vb]
      repeat (first | ((with_reducible refine Ev.ite_pos ?_ ?_); (first | assumption | (focus omega) | (focus (simp; done)))) | ((with_reducible refine Ev.ite_neg ?_ ?_); (first | assumption | (focus omega) | (focus (simp; done)))))
      exact K
    | true =>
      cases xb : leB U b i with
      | false =>
        refine ⟨s, h.skip (by simp [xb]), fun K => Ev.succ ?_⟩
        rw [xa] at va; rw [xb] at vb
        simp only [spec_l1Join.l0, rdL_nat, rd_nat, rd_row, hra, hrb, va, vb]
        repeat (first | ((with_reducible refine Ev.ite_pos ?_ ?_); (first | assumption | (focus omega) | (focus (simp; done)))) | ((with_reducible refine Ev.ite_neg ?_ ?_); (first | assumption | (focus omega) | (focus (simp; done)))))
        exact K
      | true =>
        rw [xa] at va; rw [xb] at vb
        by_cases hneg : s = -1
        · subst hneg
          refine ⟨(i : Int), h.first (by simp [xa, xb]), fun K => Ev.succ ?_⟩
          simp only [spec_l1Join.l0, rdL_nat, rd_nat, rd_row, hra, hrb, va, vb]
          repeat (first | ((with_reducible refine Ev.ite_pos ?_ ?_); (first | assumption | (focus omega) | (focus (simp; done)))) | ((with_reducible refine Ev.ite_neg ?_ ?_); (first | assumption | (focus omega) | (focus (simp; done)))))
          exact K
        · obtain ⟨c, rfl, hc⟩ : ∃ c : Nat, s = c ∧ c < i := by
            rcases h with ⟨h1, _⟩ | ⟨c, h1, h2, _⟩
            · exact absurd h1 hneg
            · exact ⟨c, h1, h2⟩
          have vc := O.val hi (show c < U.length by omega)
          cases xc : leB U i c with
          | true =>
            refine ⟨(i : Int), h.up (fun x y hx hy e1 e2 => O.anti x y hx hy e2 e1) hi (by simp [xa, xb]) xc, fun K => Ev.succ ?_⟩
            rw [xc] at vc
            simp only [spec_l1Join.l0, rdL_nat, rd_nat, rd_row, hrow, hra, hrb, va, vb, vc]
            repeat (first | ((with_reducible refine Ev.ite_pos ?_ ?_); (first | assumption | (focus omega) | (focus (simp; done)))) | ((with_reducible refine Ev.ite_neg ?_ ?_); (first | assumption | (focus omega) | (focus (simp; done)))))
            exact K
          | false =>
            refine ⟨(c : Int), h.stay hi xc, fun K => Ev.succ ?_⟩
            rw [xc] at vc
            simp only [spec_l1Join.l0, rdL_nat, rd_nat, rd_row, hrow, hra, hrb, va, vb, vc]
            repeat (first | ((with_reducible refine Ev.ite_pos ?_ ?_); (first | assumption | (focus omega) | (focus (simp; done)))) | ((with_reducible refine Ev.ite_neg ?_ ?_); (first | assumption | (focus omega) | (focus (simp; done)))))
            exact K
end
end Go.Proofs.Ytjoadckkdophnaa.Print
end
section
namespace Go.Proofs.Ytjoadckkdophnaa.Print
open Go.RowKit Go.Proofs.YtjoadckkdophnaaW.PrintWords Go.Proofs.YtjoadckkdophnaaW.PrintLast Go.Proofs.YtjoadckkdophnaaW.PrintMore
set_option linter.unusedVariables false
set_option linter.unusedSimpArgs false
open Oml
def In (U : List (List Int)) (a : Int) : Prop := 0 ≤ a ∧ a < (U.length : Int)
def andI (U : List (List Int)) (a b : Int) : Int := mI U a.toNat b.toNat
def orI (U : List (List Int)) (a b : Int) : Int := jI U a.toNat b.toNat
def notI (N : List Int) (a : Int) : Int := at1 N a.toNat
def leI (U : List (List Int)) (a b : Int) : Bool := leB U a.toNat b.toNat
def noI (U : List (List Int)) : Int := optI (leastO U)
def yesI (U : List (List Int)) (N : List Int) : Int := notI N (noI U)
section
variable {U : List (List Int)} {N : List Int} (L : Logic U N)
include L
theorem _root_.Oml.Logic.in_and {a b : Int} (ha : In U a) (hb : In U b) : In U (andI U a b) := by
  obtain ⟨m, hm⟩ := Option.isSome_iff_exists.1 (L.meets a.toNat b.toNat (by have := ha.1; have := ha.2; omega) (by have := hb.1; have := hb.2; omega))
  have := (findN_some hm).1
  unfold In andI mI; rw [hm]; simp only [optI]; omega
theorem _root_.Oml.Logic.in_or {a b : Int} (ha : In U a) (hb : In U b) : In U (orI U a b) := by
  obtain ⟨m, hm⟩ := Option.isSome_iff_exists.1 (L.joins a.toNat b.toNat (by have := ha.1; have := ha.2; omega) (by have := hb.1; have := hb.2; omega))
  have := (findN_some hm).1
  unfold In orI jI; rw [hm]; simp only [optI]; omega
theorem _root_.Oml.Logic.le_val {a b : Int} (ha : In U a) (hb : In U b) : at2 U a.toNat b.toNat = if leI U a b = true then 1 else 0 :=
  L.toOrder.val (by have := ha.1; have := ha.2; omega) (by have := hb.1; have := hb.2; omega)
end
structure Adr where
  aU : Addr
  aA : Addr
  aO : Addr
  aN : Addr
  cU : Nat
  cA : Nat
  cO : Nat
  cN : Nat
  rU : Nat → Addr
  rA : Nat → Addr
  rO : Nat → Addr
  qU : Nat → Nat
  qA : Nat → Nat
  qO : Nat → Nat
structure View (W : World) (g : Nat) (U : List (List Int)) (N : List Int) (v : Adr) : Prop where
  blk : W.heap[g]? = some (.cells #[.slice (some v.aU) U.length v.cU, .slice (some v.aA) U.length v.cA, .slice (some v.aO) U.length v.cO, .slice (some v.aN) U.length v.cN, .int .i64 (noI U), .int .i64 (yesI U N)] 57 (0, 0))
  len : N.length = U.length
  u : ∀ a, In U a → W.cell? (v.aU.add a.toNat) = some (.slice (some (v.rU a.toNat)) U.length (v.qU a.toNat))
  u2 : ∀ a b, In U a → In U b → W.cell? ((v.rU a.toNat).add b.toNat) = some (.int .i64 (at2 U a.toNat b.toNat))
  m : ∀ a, In U a → W.cell? (v.aA.add a.toNat) = some (.slice (some (v.rA a.toNat)) U.length (v.qA a.toNat))
  m2 : ∀ a b, In U a → In U b → W.cell? ((v.rA a.toNat).add b.toNat) = some (.int .i64 (andI U a b))
  j : ∀ a, In U a → W.cell? (v.aO.add a.toNat) = some (.slice (some (v.rO a.toNat)) U.length (v.qO a.toNat))
  j2 : ∀ a b, In U a → In U b → W.cell? ((v.rO a.toNat).add b.toNat) = some (.int .i64 (orI U a b))
  n : ∀ a, In U a → W.cell? (v.aN.add a.toNat) = some (.int .i64 (notI N a))
  capU : U.length ≤ v.cU
  capR : ∀ a, In U a → U.length ≤ v.qU a.toNat
namespace View
section
variable {W W1 : World} {g : Nat} {U : List (List Int)} {N : List Int} {v : Adr} (h : View W g U N v)
include h
theorem below (hb : Below W.heap.size W W1) : View W1 g U N v where
  blk := blk_below h.blk hb
  len := h.len
  u := fun a ha => cell_up (h.u a ha) hb rfl
  u2 := fun a b ha hb' => cell_up (h.u2 a b ha hb') hb rfl
  m := fun a ha => cell_up (h.m a ha) hb rfl
  m2 := fun a b ha hb' => cell_up (h.m2 a b ha hb') hb rfl
  j := fun a ha => cell_up (h.j a ha) hb rfl
  j2 := fun a b ha hb' => cell_up (h.j2 a b ha hb') hb rfl
  n := fun a ha => cell_up (h.n a ha) hb rfl
  capU := h.capU
  capR := h.capR
theorem f0 : W.cell? ⟨g, 0, none⟩ = some (.slice (some v.aU) U.length v.cU) := (blk_cell h.blk 0).trans rfl
theorem f1 : W.cell? ⟨g, 1, none⟩ = some (.slice (some v.aA) U.length v.cA) := (blk_cell h.blk 1).trans rfl
theorem f2 : W.cell? ⟨g, 2, none⟩ = some (.slice (some v.aO) U.length v.cO) := (blk_cell h.blk 2).trans rfl
theorem f3 : W.cell? ⟨g, 3, none⟩ = some (.slice (some v.aN) U.length v.cN) := (blk_cell h.blk 3).trans rfl
theorem drewN (n : Nat) : View (W.drewN n) g U N v := h.below (pw_below_drewN (Below.refl _ _) n)
theorem alloc (o : Obj) : View (W.alloc o) g U N v := h.below (below_alloc (Below.refl _ _) o)
end
end View
theorem rows_adr {W : World} {A : Option Addr} {n m : Nat} {xs : List (List Int)} (h : Kd.C (Kd.slice 3 (Kd.int .i64)) W A m xs) (hm : m = n) (hn : 0 < n) (hr : ∀ a, a < n → (xs.getD a []).length = n) :
    ∃ (ad : Addr) (r : Nat → Addr) (q : Nat → Nat), A = some ad ∧ (∀ a, a < n → W.cell? (ad.add a) = some (.slice (some (r a)) n (q a))) ∧ (∀ a b, a < n → b < n → W.cell? ((r a).add b) = some (.int .i64 (at2 xs a b))) ∧ ∀ a, a < n → n ≤ q a := by
  subst hm
  obtain ⟨ad, _, _, e, _⟩ := mat_cell h hr 0 0 (by omega) (by omega) (by omega) (by omega)
  have key : ∀ a : Nat, ∃ (r : Addr) (q : Nat), a < m → W.cell? (ad.add a) = some (.slice (some r) m q) ∧ (∀ b, b < m → W.cell? (r.add b) = some (.int .i64 (at2 xs a b))) ∧ m ≤ q := by
    intro a
    by_cases ha : a < m
    · obtain ⟨ad1, Ar, cr, e1, hc, hl, hk⟩ := rows_cell h a (by omega) (by omega)
      rw [e] at e1
      injection e1 with e1
      subst e1
      simp only [Int.toNat_natCast] at hc hl hk
      rw [hr a ha] at hc hl hk
      obtain ⟨r, e2, _⟩ := ints_cell hk 0 (by omega) (by omega)
      subst e2
      refine ⟨r, cr, fun _ => ⟨hc, fun b hb => ?_, hl⟩⟩
      obtain ⟨r', e3, hc3⟩ := ints_cell hk b (by omega) (by omega)
      cases e3
      simpa [at2, at1] using hc3
    · exact ⟨ad, 0, fun h => absurd h ha⟩
  refine ⟨ad, fun a => Classical.choose (key a), fun a => Classical.choose (Classical.choose_spec (key a)), e, fun a ha => ?_, fun a b ha hb => ?_, fun a ha => ?_⟩
  · exact (Classical.choose_spec (Classical.choose_spec (key a)) ha).1
  · exact (Classical.choose_spec (Classical.choose_spec (key a)) ha).2.1 b hb
  · exact (Classical.choose_spec (Classical.choose_spec (key a)) ha).2.2
theorem view_of {W : World} {g : Nat} {U : List (List Int)} {N : List Int} (L : Logic U N) (h : AlgOf W g U N) : ∃ v, View W g U N v := by
  obtain ⟨A0, c0, A1, c1, A2, c2, A3, c3, h1, hc, k0, k1, k2, k3⟩ := h
  have hn : 0 < U.length := L.pos
  rw [tabI_length] at h1 hc k1 k2
  rw [tabI_length, L.len] at h1
  rw [tabI_length, L.len] at hc
  rw [L.len] at k3
  obtain ⟨aU, rU, qU, eU, u1, u2, u3⟩ := rows_adr k0 rfl hn L.row
  obtain ⟨aA, rA, qA, eA, m1, m2, m3⟩ := rows_adr k1 rfl hn (tabI_row _ _)
  obtain ⟨aO, rO, qO, eO, j1, j2, j3⟩ := rows_adr k2 rfl hn (tabI_row _ _)
  obtain ⟨aN, eN, _⟩ := ints_cell k3 0 (by omega) (by omega)
  subst eU eA eO eN
  have nat : ∀ a, In U a → a.toNat < U.length := fun a ha => by have := ha.1; have := ha.2; omega
  refine ⟨⟨aU, aA, aO, aN, c0, c1, c2, c3, rU, rA, rO, qU, qA, qO⟩, { blk := h1, len := L.len, u := fun a ha => u1 _ (nat a ha), u2 := fun a b ha hb => u2 _ _ (nat a ha) (nat b hb), m := fun a ha => m1 _ (nat a ha), m2 := fun a b ha hb => ?_, j := fun a ha => j1 _ (nat a ha), j2 := fun a b ha hb => ?_, n := fun a ha => ?_, capU := hc.1, capR := fun a ha => u3 _ (nat a ha) }⟩
  · rw [m2 _ _ (nat a ha) (nat b hb), tabI_at _ _ _ _ (nat a ha) (nat b hb)]; rfl
  · rw [j2 _ _ (nat a ha) (nat b hb), tabI_at _ _ _ _ (nat a ha) (nat b hb)]; rfl
  · obtain ⟨ad, e, hcell⟩ := ints_cell k3 a ha.1 ha.2
    cases e
    exact hcell
theorem told_y (k : Nat) (A0 : Option Addr) (c0 : Nat) (U : List (List Int)) (A1 : Option Addr) (c1 : Nat) (N : List Int) (w : World)
    (hr0 : Kd.C (Kd.slice 3 (Kd.int .i64)) w A0 U.length U) (hc0 : U.length ≤ c0) (hr1 : Kd.C (Kd.int .i64) w A1 N.length N) (hc1 : N.length ≤ c1) (hF : ToldFacts k U) (hL : logicB U N = true) :
    Calls Try.prog 55 #[.agg #[.slice A0 U.length c0, .slice A1 N.length c1]] w fun e w' => ∃ g v, e = .returned (.pointer (some ⟨g, 0, none⟩)) ∧ View w' g U N v ∧ w.heap.size ≤ g ∧ Below w.heap.size w w' := by
  refine (told_calls k A0 c0 U A1 c1 N w hr0 hc0 hr1 hc1 hF).mono fun e w' h => ?_
  obtain ⟨hb, h | h⟩ := h
  · obtain ⟨_, g, he, hg, ha⟩ := h
    obtain ⟨v, hv⟩ := view_of (logicB_iff.1 hL) ha
    exact ⟨g, v, he, hv, hg, hb⟩
  · rw [hL] at h; exact absurd h.1 (by simp)
theorem told_n (k : Nat) (A0 : Option Addr) (c0 : Nat) (U : List (List Int)) (A1 : Option Addr) (c1 : Nat) (N : List Int) (w : World)
    (hr0 : Kd.C (Kd.slice 3 (Kd.int .i64)) w A0 U.length U) (hc0 : U.length ≤ c0) (hr1 : Kd.C (Kd.int .i64) w A1 N.length N) (hc1 : N.length ≤ c1) (hF : ToldFacts k U) (hL : logicB U N = false) :
    Calls Try.prog 55 #[.agg #[.slice A0 U.length c0, .slice A1 N.length c1]] w fun e w' => e = .returned (.pointer none) ∧ Below w.heap.size w w' := by
  refine (told_calls k A0 c0 U A1 c1 N w hr0 hc0 hr1 hc1 hF).mono fun e w' h => ?_
  obtain ⟨hb, h | h⟩ := h
  · rw [hL] at h; exact absurd h.1 (by simp)
  · exact ⟨h.2, hb⟩
end Go.Proofs.Ytjoadckkdophnaa.Print
end
section
namespace Go.Proofs.Ytjoadckkdophnaa.Print
open Go.RowKit Go.Proofs.YtjoadckkdophnaaW.PrintWords Go.Proofs.YtjoadckkdophnaaW.PrintLast Go.Proofs.YtjoadckkdophnaaW.PrintMore
set_option linter.unusedVariables false
set_option linter.unusedSimpArgs false
open Oml
theorem l1In_eq (a b c : Int) : spec_l1In.f a b c = some (decide (b ≤ a) && decide (a ≤ c)) := by
  unfold spec_l1In.f
  by_cases h : a ≥ b
  · rw [if_pos h]; simp [h]
  · rw [if_neg h]; simp [h]
def rowS (U : List (List Int)) (i : Nat) : Bool := (U.getD i []).length == U.length && allN U.length fun j => at2 U i j == 0 || at2 U i j == 1
def relS (U : List (List Int)) (i : Nat) : Bool := allN U.length fun j => !(if i = j then !leB U i j else leB U i j && leB U j i) && allN U.length fun c => !(leB U i j && leB U j c) || leB U i c
theorem orderB_spec (U : List (List Int)) : orderB U = (decide (1 ≤ U.length) && (decide (U.length ≤ 12) && (allN U.length (rowS U) && allN U.length (relS U)))) := by
  rw [Bool.eq_iff_iff, orderB_iff]
  unfold rowS relS
  simp only [Bool.and_eq_true, decide_eq_true_eq, allN_iff, Bool.or_eq_true, beq_iff_eq, Bool.not_eq_true']
  constructor
  · intro O
    refine ⟨O.pos, O.small, fun i hi => ⟨O.row i hi, fun j hj => O.bit i j hi hj⟩, fun i hi j hj => ⟨?_, fun c hc => ?_⟩⟩
    · by_cases e : i = j
      · rw [if_pos e, ← e, O.refl i hi]; rfl
      · rw [if_neg e]
        cases k1 : leB U i j
        · rfl
        · cases k2 : leB U j i
          · rfl
          · exact absurd (O.anti i j hi hj k1 k2) e
    · cases k1 : leB U i j
      · simp
      · cases k2 : leB U j c
        · simp
        · exact .inr (O.trans i j c hi hj hc k1 k2)
  · rintro ⟨h1, h2, h3, h4⟩
    refine ⟨h1, h2, fun a ha => (h3 a ha).1, fun a b ha hb => (h3 a ha).2 b hb, fun a ha => ?_, fun a b ha hb k1 k2 => ?_, fun a b c ha hb hc k1 k2 => ?_⟩
    · have := (h4 a ha a ha).1
      rw [if_pos rfl] at this
      simpa using this
    · by_cases e : a = b
      · exact e
      · have := (h4 a ha b hb).1
        rw [if_neg e, k1, k2] at this
        exact absurd this (by simp)
    · rcases (h4 a ha b hb).2 c hc with e | e
      · rw [k1, k2] at e; exact absurd e (by simp)
      · exact e
theorem spec_OrderOk.ev (U : List (List Int)) : Ev (fun k => spec_OrderOk.f k U) (orderB U) := by
  rw [orderB_spec]
  unfold spec_OrderOk.f
  refine Ev.pbind (l1In_eq _ _ _) ?_
  by_cases h1 : 1 ≤ U.length
  · by_cases h2 : U.length ≤ 12
    · rw [show (decide ((1 : Int) ≤ U.length) && decide ((U.length : Int) ≤ 12)) = true by simp; omega]
      simp only [h1, h2, decide_true, Bool.true_and]
      repeat (first | ((with_reducible refine Ev.ite_pos ?_ ?_); (first | assumption | (focus omega) | (focus (simp; done)))) | ((with_reducible refine Ev.ite_neg ?_ ?_); (first | assumption | (focus omega) | (focus (simp; done)))))
      refine Ev.eq (Ev.all (n := U.length) (g := fun k i => spec_OrderOk.l0 k U U.length i) (rowS U) (go := allN U.length (relS U)) (stop := false) (by omega) (fun hr => ?_) fun i hi _ R hR => ?_) (by cases allN U.length (rowS U) <;> rfl)
      · have row : ∀ i, i < U.length → (U.getD i []).length = U.length := fun i hi => by
          have := hr i hi
          unfold rowS at this
          simp only [Bool.and_eq_true, beq_iff_eq] at this
          exact this.1
        have bit : ∀ i j, i < U.length → j < U.length → at2 U i j = if leB U i j = true then 1 else 0 := fun i j hi hj => by
          have := hr i hi
          unfold rowS at this
          simp only [Bool.and_eq_true, beq_iff_eq, allN_iff, Bool.or_eq_true] at this
          unfold leB
          rcases this.2 j hj with e | e <;> simp [e]
        refine Ev.succ ?_
        simp only [spec_OrderOk.l0]
        repeat (first | ((with_reducible refine Ev.ite_pos ?_ ?_); (first | assumption | (focus omega) | (focus (simp; done)))) | ((with_reducible refine Ev.ite_neg ?_ ?_); (first | assumption | (focus omega) | (focus (simp; done)))))
        refine Ev.eq (Ev.all (n := U.length) (g := fun k i => spec_OrderOk.l2 k U U.length i) (relS U) (go := true) (stop := false) (by omega) (fun _ => ?_) fun a ha _ R hR => ?_) (by cases allN U.length _ <;> rfl)
        · refine Ev.succ ?_
          simp only [spec_OrderOk.l2]
          repeat (first | ((with_reducible refine Ev.ite_pos ?_ ?_); (first | assumption | (focus omega) | (focus (simp; done)))) | ((with_reducible refine Ev.ite_neg ?_ ?_); (first | assumption | (focus omega) | (focus (simp; done)))))
          exact Ev.now _
        · refine Ev.succ ?_
          simp only [spec_OrderOk.l2]
          repeat (first | ((with_reducible refine Ev.ite_pos ?_ ?_); (first | assumption | (focus omega) | (focus (simp; done)))) | ((with_reducible refine Ev.ite_neg ?_ ?_); (first | assumption | (focus omega) | (focus (simp; done)))))
          refine Ev.all (n := U.length) (g := fun k i => spec_OrderOk.l3 k U U.length a i) _ (by omega) (fun h => ?_) fun b hb _ R2 hR2 => ?_
          · refine Ev.succ ?_
            simp only [spec_OrderOk.l3]
            repeat (first | ((with_reducible refine Ev.ite_pos ?_ ?_); (first | assumption | (focus omega) | (focus (simp; done)))) | ((with_reducible refine Ev.ite_neg ?_ ?_); (first | assumption | (focus omega) | (focus (simp; done)))))
            exact hR (allN_iff.2 h)
          · have vab := bit a b ha hb
            have vba := bit b a hb ha
            have j4 : Ev (fun k => spec_OrderOk.j4 k U U.length a b (if a = b then !leB U a b else leB U a b && leB U b a)) (if (!(if a = b then !leB U a b else leB U a b && leB U b a) && allN U.length fun c => !(leB U a b && leB U b c) || leB U a c) = true then R2 else false) := by
              refine Ev.succ ?_
              simp only [spec_OrderOk.j4]
              cases hx : (if a = b then !leB U a b else leB U a b && leB U b a) with
              | true => repeat (first | ((with_reducible refine Ev.ite_pos ?_ ?_); (first | assumption | (focus omega) | (focus (simp; done)))) | ((with_reducible refine Ev.ite_neg ?_ ?_); (first | assumption | (focus omega) | (focus (simp; done)))))
                        exact Ev.now _
              | false =>
                rw [hx, Bool.not_false, Bool.true_and] at hR2
                rw [Bool.not_false, Bool.true_and]
                repeat (first | ((with_reducible refine Ev.ite_pos ?_ ?_); (first | assumption | (focus omega) | (focus (simp; done)))) | ((with_reducible refine Ev.ite_neg ?_ ?_); (first | assumption | (focus omega) | (focus (simp; done)))))
                refine Ev.all (n := U.length) (g := fun k i => spec_OrderOk.l4 k U U.length a b i) _ (by omega) (fun h => ?_) fun c hc _ R3 hR3 => ?_
                · refine Ev.succ ?_
                  simp only [spec_OrderOk.l4]
                  repeat (first | ((with_reducible refine Ev.ite_pos ?_ ?_); (first | assumption | (focus omega) | (focus (simp; done)))) | ((with_reducible refine Ev.ite_neg ?_ ?_); (first | assumption | (focus omega) | (focus (simp; done)))))
                  exact hR2 (allN_iff.2 h)
                · refine Ev.succ ?_
                  have vbc := bit b c hb hc
                  have vac := bit a c ha hc
                  have ra := row a ha
                  have rb := row b hb
                  simp only [spec_OrderOk.l4, rdL_nat, rd_nat, rd_row, ra, rb, vab, vbc, vac]
                  repeat (first | ((with_reducible refine Ev.ite_pos ?_ ?_); (first | assumption | (focus omega) | (focus (simp; done)))) | ((with_reducible refine Ev.ite_neg ?_ ?_); (first | assumption | (focus omega) | (focus (simp; done)))))
                  cases f1 : leB U a b with
                  | false => repeat (first | ((with_reducible refine Ev.ite_pos ?_ ?_); (first | assumption | (focus omega) | (focus (simp; done)))) | ((with_reducible refine Ev.ite_neg ?_ ?_); (first | assumption | (focus omega) | (focus (simp; done)))))
                             exact hR3 (by simp [f1])
                  | true =>
                    repeat (first | ((with_reducible refine Ev.ite_pos ?_ ?_); (first | assumption | (focus omega) | (focus (simp; done)))) | ((with_reducible refine Ev.ite_neg ?_ ?_); (first | assumption | (focus omega) | (focus (simp; done)))))
                    cases f2 : leB U b c with
                    | false => repeat (first | ((with_reducible refine Ev.ite_pos ?_ ?_); (first | assumption | (focus omega) | (focus (simp; done)))) | ((with_reducible refine Ev.ite_neg ?_ ?_); (first | assumption | (focus omega) | (focus (simp; done)))))
                               exact hR3 (by simp [f2])
                    | true =>
                      repeat (first | ((with_reducible refine Ev.ite_pos ?_ ?_); (first | assumption | (focus omega) | (focus (simp; done)))) | ((with_reducible refine Ev.ite_neg ?_ ?_); (first | assumption | (focus omega) | (focus (simp; done)))))
                      cases f3 : leB U a c with
                      | false => repeat (first | ((with_reducible refine Ev.ite_pos ?_ ?_); (first | assumption | (focus omega) | (focus (simp; done)))) | ((with_reducible refine Ev.ite_neg ?_ ?_); (first | assumption | (focus omega) | (focus (simp; done)))))
                                 exact Ev.now _
                      | true => repeat (first | ((with_reducible refine Ev.ite_pos ?_ ?_); (first | assumption | (focus omega) | (focus (simp; done)))) | ((with_reducible refine Ev.ite_neg ?_ ?_); (first | assumption | (focus omega) | (focus (simp; done)))))
                                exact hR3 (by simp [f3])
            refine Ev.succ ?_
            have ra := row a ha
            have rb := row b hb
            simp only [spec_OrderOk.l3, rdL_nat, rd_nat, rd_row, ra, rb, vab, vba]
            repeat (first | ((with_reducible refine Ev.ite_pos ?_ ?_); (first | assumption | (focus omega) | (focus (simp; done)))) | ((with_reducible refine Ev.ite_neg ?_ ?_); (first | assumption | (focus omega) | (focus (simp; done)))))
            by_cases e : a = b
            · rw [if_pos e] at j4 ⊢
              repeat (first | ((with_reducible refine Ev.ite_pos ?_ ?_); (first | assumption | (focus omega) | (focus (simp; done)))) | ((with_reducible refine Ev.ite_neg ?_ ?_); (first | assumption | (focus omega) | (focus (simp; done)))))
              cases f1 : leB U a b with
              | false => rw [f1] at j4
                         repeat (first | ((with_reducible refine Ev.ite_pos ?_ ?_); (first | assumption | (focus omega) | (focus (simp; done)))) | ((with_reducible refine Ev.ite_neg ?_ ?_); (first | assumption | (focus omega) | (focus (simp; done)))))
                         exact j4
              | true => rw [f1] at j4
                        repeat (first | ((with_reducible refine Ev.ite_pos ?_ ?_); (first | assumption | (focus omega) | (focus (simp; done)))) | ((with_reducible refine Ev.ite_neg ?_ ?_); (first | assumption | (focus omega) | (focus (simp; done)))))
                        exact j4
            · rw [if_neg e] at j4 ⊢
              repeat (first | ((with_reducible refine Ev.ite_pos ?_ ?_); (first | assumption | (focus omega) | (focus (simp; done)))) | ((with_reducible refine Ev.ite_neg ?_ ?_); (first | assumption | (focus omega) | (focus (simp; done)))))
              cases f1 : leB U a b with
              | false => rw [f1] at j4
                         repeat (first | ((with_reducible refine Ev.ite_pos ?_ ?_); (first | assumption | (focus omega) | (focus (simp; done)))) | ((with_reducible refine Ev.ite_neg ?_ ?_); (first | assumption | (focus omega) | (focus (simp; done)))))
                         exact j4
              | true =>
                rw [f1] at j4
                repeat (first | ((with_reducible refine Ev.ite_pos ?_ ?_); (first | assumption | (focus omega) | (focus (simp; done)))) | ((with_reducible refine Ev.ite_neg ?_ ?_); (first | assumption | (focus omega) | (focus (simp; done)))))
                rw [show ((if leB U b a = true then (1 : Int) else 0) == 1) = leB U b a by cases leB U b a <;> rfl]
                exact j4
      · refine Ev.succ ?_
        simp only [spec_OrderOk.l0, rdL_nat]
        repeat (first | ((with_reducible refine Ev.ite_pos ?_ ?_); (first | assumption | (focus omega) | (focus (simp; done)))) | ((with_reducible refine Ev.ite_neg ?_ ?_); (first | assumption | (focus omega) | (focus (simp; done)))))
        by_cases e1 : (U.getD i []).length = U.length
        · repeat (first | ((with_reducible refine Ev.ite_pos ?_ ?_); (first | assumption | (focus omega) | (focus (simp; done)))) | ((with_reducible refine Ev.ite_neg ?_ ?_); (first | assumption | (focus omega) | (focus (simp; done)))))
          refine Ev.eq (Ev.all (n := U.length) (g := fun k j => spec_OrderOk.l1 k U U.length i j) (fun j => at2 U i j == 0 || at2 U i j == 1) (go := R) (stop := false) (by omega) (fun h => ?_) fun j hj _ R2 hR2 => ?_) (by unfold rowS; simp [-List.getD_eq_getElem?_getD, e1])
          · refine Ev.succ ?_
            simp only [spec_OrderOk.l1]
            repeat (first | ((with_reducible refine Ev.ite_pos ?_ ?_); (first | assumption | (focus omega) | (focus (simp; done)))) | ((with_reducible refine Ev.ite_neg ?_ ?_); (first | assumption | (focus omega) | (focus (simp; done)))))
            exact hR (by unfold rowS; simp only [e1, BEq.rfl, Bool.true_and]; exact allN_iff.2 h)
          · refine Ev.succ ?_
            simp only [spec_OrderOk.l1, rdL_nat, rd_nat, rd_row, l1In_eq]
            repeat (first | ((with_reducible refine Ev.ite_pos ?_ ?_); (first | assumption | (focus omega) | (focus (simp; done)))) | ((with_reducible refine Ev.ite_neg ?_ ?_); (first | assumption | (focus omega) | (focus (simp; done)))))
            refine Ev.pbind rfl ?_
            have e : (decide (0 ≤ at2 U i j) && decide (at2 U i j ≤ 1)) = (at2 U i j == 0 || at2 U i j == 1) := by
              rw [Bool.eq_iff_iff]; simp only [Bool.and_eq_true, decide_eq_true_eq, Bool.or_eq_true, beq_iff_eq]; omega
            rw [e]
            cases hb : (at2 U i j == 0 || at2 U i j == 1) with
            | true => repeat (first | ((with_reducible refine Ev.ite_pos ?_ ?_); (first | assumption | (focus omega) | (focus (simp; done)))) | ((with_reducible refine Ev.ite_neg ?_ ?_); (first | assumption | (focus omega) | (focus (simp; done)))))
                      exact hR2 hb
            | false => repeat (first | ((with_reducible refine Ev.ite_pos ?_ ?_); (first | assumption | (focus omega) | (focus (simp; done)))) | ((with_reducible refine Ev.ite_neg ?_ ?_); (first | assumption | (focus omega) | (focus (simp; done)))))
                       exact Ev.now _
        · repeat (first | ((with_reducible refine Ev.ite_pos ?_ ?_); (first | assumption | (focus omega) | (focus (simp; done)))) | ((with_reducible refine Ev.ite_neg ?_ ?_); (first | assumption | (focus omega) | (focus (simp; done)))))
          exact Ev.eq (Ev.now _) (by unfold rowS; simp [-List.getD_eq_getElem?_getD, e1])
    · rw [show (decide ((1 : Int) ≤ U.length) && decide ((U.length : Int) ≤ 12)) = false by simp; omega]
      simp only [h1, h2, decide_true, decide_false, Bool.true_and, Bool.false_and]
      repeat (first | ((with_reducible refine Ev.ite_pos ?_ ?_); (first | assumption | (focus omega) | (focus (simp; done)))) | ((with_reducible refine Ev.ite_neg ?_ ?_); (first | assumption | (focus omega) | (focus (simp; done)))))
      exact Ev.now _
  · rw [show (decide ((1 : Int) ≤ U.length) && decide ((U.length : Int) ≤ 12)) = false by simp; omega]
    simp only [h1, decide_false, Bool.false_and]
    repeat (first | ((with_reducible refine Ev.ite_pos ?_ ?_); (first | assumption | (focus omega) | (focus (simp; done)))) | ((with_reducible refine Ev.ite_neg ?_ ?_); (first | assumption | (focus omega) | (focus (simp; done)))))
    exact Ev.now _
theorem meetO_comm (U : List (List Int)) (a b : Nat) : meetO U a b = meetO U b a := by
  unfold meetO
  refine findN_congr fun c _ => ?_
  rw [Bool.eq_iff_iff, meetP_iff, meetP_iff]
  constructor <;> rintro ⟨h1, h2, h3⟩ <;> exact ⟨h2, h1, fun d hd k1 k2 => h3 d hd k2 k1⟩
theorem joinO_comm (U : List (List Int)) (a b : Nat) : joinO U a b = joinO U b a := by
  unfold joinO
  refine findN_congr fun c _ => ?_
  rw [Bool.eq_iff_iff, joinP_iff, joinP_iff]
  constructor <;> rintro ⟨h1, h2, h3⟩ <;> exact ⟨h2, h1, fun d hd k1 k2 => h3 d hd k2 k1⟩
theorem lattice_half {U : List (List Int)} (O : Order U) : (allN U.length fun a => allN U.length fun b => (meetO U a b).isSome && (joinO U a b).isSome) = allN U.length fun a => allN a fun b => (meetO U a b).isSome && (joinO U a b).isSome := by
  rw [Bool.eq_iff_iff]
  simp only [allN_iff]
  constructor
  · intro h a ha b hb
    exact h a ha b (by omega)
  · intro h a ha b hb
    rcases Nat.lt_trichotomy b a with hlt | rfl | hlt
    · exact h a ha b hlt
    · rw [O.meet_eq (a := b) (b := b) hb (meetP_iff.2 ⟨O.refl b hb, O.refl b hb, fun d _ h _ => h⟩), O.join_eq (a := b) (b := b) hb (joinP_iff.2 ⟨O.refl b hb, O.refl b hb, fun d _ h _ => h⟩)]
      rfl
    · rw [meetO_comm, joinO_comm]
      exact h b hb a hlt
theorem spec_LatticeOk.ev (U : List (List Int)) : Ev (fun k => spec_LatticeOk.f k U) (latticeB U) := by
  unfold spec_LatticeOk.f latticeB
  have ho := spec_OrderOk.ev U
  cases hb : orderB U with
  | false =>
    rw [hb] at ho
    have fin : Ev (fun k => spec_LatticeOk.j1 k U 0 false) false := by
      refine Ev.succ ?_
      simp only [spec_LatticeOk.j1]
      repeat (first | ((with_reducible refine Ev.ite_pos ?_ ?_); (first | assumption | (focus omega) | (focus (simp; done)))) | ((with_reducible refine Ev.ite_neg ?_ ?_); (first | assumption | (focus omega) | (focus (simp; done)))))
      exact Ev.bind ho (Ev.now _)
    refine Ev.succ ?_
    simp only [spec_LatticeOk.l0]
    by_cases h0 : (0 : Int) < (U.length : Int)
    · repeat (first | ((with_reducible refine Ev.ite_pos ?_ ?_); (first | assumption | (focus omega) | (focus (simp; done)))) | ((with_reducible refine Ev.ite_neg ?_ ?_); (first | assumption | (focus omega) | (focus (simp; done)))))
      exact Ev.bind ho fin
    · repeat (first | ((with_reducible refine Ev.ite_pos ?_ ?_); (first | assumption | (focus omega) | (focus (simp; done)))) | ((with_reducible refine Ev.ite_neg ?_ ?_); (first | assumption | (focus omega) | (focus (simp; done)))))
      exact fin
  | true =>
    rw [hb] at ho
    have O := orderB_iff.1 hb
    have hs := O.small
    refine Ev.eq (Ev.all (n := U.length) (g := fun k i => spec_LatticeOk.l0 k U i) (fun a => allN a fun b => (meetO U a b).isSome && (joinO U a b).isSome) (go := true) (stop := false) (by omega) (fun _ => ?_) fun a ha _ R hR => ?_) (by rw [Bool.true_and, lattice_half O]; cases allN U.length _ <;> rfl)
    · refine Ev.succ ?_
      simp only [spec_LatticeOk.l0]
      repeat (first | ((with_reducible refine Ev.ite_pos ?_ ?_); (first | assumption | (focus omega) | (focus (simp; done)))) | ((with_reducible refine Ev.ite_neg ?_ ?_); (first | assumption | (focus omega) | (focus (simp; done)))))
      refine Ev.succ ?_
      simp only [spec_LatticeOk.j1]
      repeat (first | ((with_reducible refine Ev.ite_pos ?_ ?_); (first | assumption | (focus omega) | (focus (simp; done)))) | ((with_reducible refine Ev.ite_neg ?_ ?_); (first | assumption | (focus omega) | (focus (simp; done)))))
      exact Ev.bind ho (Ev.now _)
    · refine Ev.succ ?_
      simp only [spec_LatticeOk.l0]
      repeat (first | ((with_reducible refine Ev.ite_pos ?_ ?_); (first | assumption | (focus omega) | (focus (simp; done)))) | ((with_reducible refine Ev.ite_neg ?_ ?_); (first | assumption | (focus omega) | (focus (simp; done)))))
      refine Ev.bind ho ?_
      refine Ev.succ ?_
      simp only [spec_LatticeOk.j1]
      repeat (first | ((with_reducible refine Ev.ite_pos ?_ ?_); (first | assumption | (focus omega) | (focus (simp; done)))) | ((with_reducible refine Ev.ite_neg ?_ ?_); (first | assumption | (focus omega) | (focus (simp; done)))))
      refine Ev.all (n := a) (g := fun k i => spec_LatticeOk.l1 k U a i) _ (by omega) (fun h => ?_) fun b hb' _ R2 hR2 => ?_
      · refine Ev.succ ?_
        simp only [spec_LatticeOk.l1]
        repeat (first | ((with_reducible refine Ev.ite_pos ?_ ?_); (first | assumption | (focus omega) | (focus (simp; done)))) | ((with_reducible refine Ev.ite_neg ?_ ?_); (first | assumption | (focus omega) | (focus (simp; done)))))
        exact hR (allN_iff.2 h)
      · refine Ev.succ ?_
        have hb : b < U.length := by omega
        simp only [spec_LatticeOk.l1]
        repeat (first | ((with_reducible refine Ev.ite_pos ?_ ?_); (first | assumption | (focus omega) | (focus (simp; done)))) | ((with_reducible refine Ev.ite_neg ?_ ?_); (first | assumption | (focus omega) | (focus (simp; done)))))
        refine Ev.bind (spec_l1Meet.ev O ha hb) ?_
        unfold mI
        cases em : meetO U a b with
        | none => refine Ev.ite_pos (by simp [optI]) ?_
                  exact Ev.eq (Ev.now _) (by simp)
        | some m =>
          refine Ev.ite_neg (by have := optI_neg (some 0); simp [optI]) ?_
          refine Ev.bind (spec_l1Join.ev O ha hb) ?_
          unfold jI
          cases ej : joinO U a b with
          | none => refine Ev.ite_pos (by simp [optI]) ?_
                    exact Ev.eq (Ev.now _) (by simp)
          | some j =>
            refine Ev.ite_neg (by have := optI_neg (some 0); simp [optI]) ?_
            exact Ev.eq (hR2 (by simp [em, ej])) (by simp)
theorem spec_LeastOf.ev (U : List (List Int)) : Ev (fun k => spec_LeastOf.f k U) (if orderB U = true then (optI (leastO U), (leastO U).isSome) else (-1, false)) := by
  unfold spec_LeastOf.f
  have ho := spec_OrderOk.ev U
  cases hb : orderB U with
  | false =>
    rw [hb] at ho
    have fin : Ev (fun k => spec_LeastOf.j1 k U 0 false) (-1, false) := by
      refine Ev.succ ?_
      simp only [spec_LeastOf.j1]
      repeat (first | ((with_reducible refine Ev.ite_pos ?_ ?_); (first | assumption | (focus omega) | (focus (simp; done)))) | ((with_reducible refine Ev.ite_neg ?_ ?_); (first | assumption | (focus omega) | (focus (simp; done)))))
      exact Ev.now _
    repeat (first | ((with_reducible refine Ev.ite_pos ?_ ?_); (first | assumption | (focus omega) | (focus (simp; done)))) | ((with_reducible refine Ev.ite_neg ?_ ?_); (first | assumption | (focus omega) | (focus (simp; done)))))
    refine Ev.succ ?_
    simp only [spec_LeastOf.l0]
    by_cases h0 : (0 : Int) < (U.length : Int)
    · repeat (first | ((with_reducible refine Ev.ite_pos ?_ ?_); (first | assumption | (focus omega) | (focus (simp; done)))) | ((with_reducible refine Ev.ite_neg ?_ ?_); (first | assumption | (focus omega) | (focus (simp; done)))))
      exact Ev.eq (Ev.bind ho fin) (by simp)
    · repeat (first | ((with_reducible refine Ev.ite_pos ?_ ?_); (first | assumption | (focus omega) | (focus (simp; done)))) | ((with_reducible refine Ev.ite_neg ?_ ?_); (first | assumption | (focus omega) | (focus (simp; done)))))
      exact Ev.eq fin (by simp)
  | true =>
    rw [hb] at ho
    have O := orderB_iff.1 hb
    have hs := O.small
    refine Ev.eq (Ev.find (n := U.length) (g := fun k i => spec_LeastOf.l0 k U i) (fun a => allN U.length fun b => leB U a b) (none' := (-1, false)) (some' := fun i => ((i : Int), true)) (by omega) (fun _ => ?_) fun a ha _ R hR => ?_) (by rw [if_pos rfl]; unfold leastO; cases findN U.length _ <;> rfl)
    · refine Ev.succ ?_
      simp only [spec_LeastOf.l0]
      repeat (first | ((with_reducible refine Ev.ite_pos ?_ ?_); (first | assumption | (focus omega) | (focus (simp; done)))) | ((with_reducible refine Ev.ite_neg ?_ ?_); (first | assumption | (focus omega) | (focus (simp; done)))))
      refine Ev.succ ?_
      simp only [spec_LeastOf.j1]
      repeat (first | ((with_reducible refine Ev.ite_pos ?_ ?_); (first | assumption | (focus omega) | (focus (simp; done)))) | ((with_reducible refine Ev.ite_neg ?_ ?_); (first | assumption | (focus omega) | (focus (simp; done)))))
      exact Ev.now _
    · refine Ev.succ ?_
      simp only [spec_LeastOf.l0]
      repeat (first | ((with_reducible refine Ev.ite_pos ?_ ?_); (first | assumption | (focus omega) | (focus (simp; done)))) | ((with_reducible refine Ev.ite_neg ?_ ?_); (first | assumption | (focus omega) | (focus (simp; done)))))
      refine Ev.bind ho ?_
      refine Ev.succ ?_
      simp only [spec_LeastOf.j1]
      repeat (first | ((with_reducible refine Ev.ite_pos ?_ ?_); (first | assumption | (focus omega) | (focus (simp; done)))) | ((with_reducible refine Ev.ite_neg ?_ ?_); (first | assumption | (focus omega) | (focus (simp; done)))))
      have key : ∀ d i, i + d = U.length → ∀ fl : Bool, (fl && allFrom U.length (fun b => leB U a b) i) = allN U.length (fun b => leB U a b) → Ev (fun k => spec_LeastOf.l1 k U a fl i) (if allN U.length (fun b => leB U a b) = true then ((a : Int), true) else R) := by
        intro d
        induction d with
        | zero =>
          intro i hi fl hfl
          refine Ev.succ ?_
          simp only [spec_LeastOf.l1]
          rw [allFrom_ge (by omega), Bool.and_true] at hfl
          rw [hfl]
          repeat (first | ((with_reducible refine Ev.ite_pos ?_ ?_); (first | assumption | (focus omega) | (focus (simp; done)))) | ((with_reducible refine Ev.ite_neg ?_ ?_); (first | assumption | (focus omega) | (focus (simp; done)))))
          cases ha' : allN U.length (fun b => leB U a b) with
          | true => repeat (first | ((with_reducible refine Ev.ite_pos ?_ ?_); (first | assumption | (focus omega) | (focus (simp; done)))) | ((with_reducible refine Ev.ite_neg ?_ ?_); (first | assumption | (focus omega) | (focus (simp; done)))))
                    exact Ev.now _
          | false => repeat (first | ((with_reducible refine Ev.ite_pos ?_ ?_); (first | assumption | (focus omega) | (focus (simp; done)))) | ((with_reducible refine Ev.ite_neg ?_ ?_); (first | assumption | (focus omega) | (focus (simp; done)))))
                     exact hR ha'
        | succ d ih =>
          intro i hi fl hfl
          rw [allFrom_lt (by omega)] at hfl
          refine Ev.succ ?_
          have rl := O.row a ha
          simp only [spec_LeastOf.l1, rdL_nat, rd_nat, rd_row, wrap_nat (show i < 4611686018427387904 by omega), rl]
          repeat (first | ((with_reducible refine Ev.ite_pos ?_ ?_); (first | assumption | (focus omega) | (focus (simp; done)))) | ((with_reducible refine Ev.ite_neg ?_ ?_); (first | assumption | (focus omega) | (focus (simp; done)))))
          cases fl with
          | true => repeat (first | ((with_reducible refine Ev.ite_pos ?_ ?_); (first | assumption | (focus omega) | (focus (simp; done)))) | ((with_reducible refine Ev.ite_neg ?_ ?_); (first | assumption | (focus omega) | (focus (simp; done)))))
                    exact ih (i + 1) (by omega) _ hfl
          | false => repeat (first | ((with_reducible refine Ev.ite_pos ?_ ?_); (first | assumption | (focus omega) | (focus (simp; done)))) | ((with_reducible refine Ev.ite_neg ?_ ?_); (first | assumption | (focus omega) | (focus (simp; done)))))
                     exact ih (i + 1) (by omega) _ (by rw [← hfl]; simp)
      exact key U.length 0 (by omega) true (by rw [allFrom_zero, Bool.true_and])
def negS (U : List (List Int)) (N : List Int) (a : Nat) : Bool :=
  at1 N (at1 N a).toNat == (a : Int) && (mI U a (at1 N a).toNat == optI (leastO U) && allN U.length fun b => !leB U a b || leB U (at1 N b).toNat (at1 N a).toNat)
theorem logicB_spec (U : List (List Int)) (N : List Int) : logicB U N = (latticeB U && (N.length == U.length && (allN U.length (fun a => decide (0 ≤ at1 N a) && decide (at1 N a < U.length)) && allN U.length (negS U N)))) := by
  unfold logicB negS mI
  have e : ∀ x y : Option Nat, (optI x == optI y) = (x == y) := by
    intro x y
    rw [Bool.eq_iff_iff, beq_iff_eq, beq_iff_eq]
    exact ⟨optI_inj, fun h => by rw [h]⟩
  simp only [e]
theorem spec_LogicOk.ev (U : List (List Int)) (N : List Int) : Ev (fun k => spec_LogicOk.f k U N) (logicB U N) := by
  rw [logicB_spec]
  unfold spec_LogicOk.f
  refine Ev.bind (spec_LatticeOk.ev U) ?_
  have jf : Ev (fun k => spec_LogicOk.j0 k U.length true U N) false := by
    refine Ev.succ ?_
    simp only [spec_LogicOk.j0]
    repeat (first | ((with_reducible refine Ev.ite_pos ?_ ?_); (first | assumption | (focus omega) | (focus (simp; done)))) | ((with_reducible refine Ev.ite_neg ?_ ?_); (first | assumption | (focus omega) | (focus (simp; done)))))
    exact Ev.now _
  cases hl : latticeB U with
  | false => repeat (first | ((with_reducible refine Ev.ite_pos ?_ ?_); (first | assumption | (focus omega) | (focus (simp; done)))) | ((with_reducible refine Ev.ite_neg ?_ ?_); (first | assumption | (focus omega) | (focus (simp; done)))))
             exact Ev.eq jf (by simp)
  | true =>
    have O := latticeB_order hl
    have hs := O.small
    repeat (first | ((with_reducible refine Ev.ite_pos ?_ ?_); (first | assumption | (focus omega) | (focus (simp; done)))) | ((with_reducible refine Ev.ite_neg ?_ ?_); (first | assumption | (focus omega) | (focus (simp; done)))))
    by_cases hn : N.length = U.length
    · rw [show ((N.length : Int) != (U.length : Int)) = false by rw [hn]; simp, show (N.length == U.length) = true by simp [hn]]
      simp only [Bool.true_and]
      refine Ev.succ ?_
      simp only [spec_LogicOk.j0]
      repeat (first | ((with_reducible refine Ev.ite_pos ?_ ?_); (first | assumption | (focus omega) | (focus (simp; done)))) | ((with_reducible refine Ev.ite_neg ?_ ?_); (first | assumption | (focus omega) | (focus (simp; done)))))
      refine Ev.eq (Ev.all (n := U.length) (g := fun k i => spec_LogicOk.l0 k U.length i U N) (fun a => decide (0 ≤ at1 N a) && decide (at1 N a < U.length)) (go := allN U.length (negS U N)) (stop := false) (by omega) (fun hr => ?_) fun i hi _ R hR => ?_) (by cases allN U.length fun a => decide (0 ≤ at1 N a) && decide (at1 N a < U.length) <;> rfl)
      · have ran : ∀ a, a < U.length → ∃ m : Nat, at1 N a = m ∧ m < U.length := fun a ha => by
          have := hr a ha
          simp only [Bool.and_eq_true, decide_eq_true_eq] at this
          exact ⟨(at1 N a).toNat, by omega, by omega⟩
        refine Ev.succ ?_
        simp only [spec_LogicOk.l0]
        repeat (first | ((with_reducible refine Ev.ite_pos ?_ ?_); (first | assumption | (focus omega) | (focus (simp; done)))) | ((with_reducible refine Ev.ite_neg ?_ ?_); (first | assumption | (focus omega) | (focus (simp; done)))))
        refine Ev.bind (spec_LeastOf.ev U) ?_
        rw [if_pos (orderB_iff.2 O)]
        refine Ev.eq (Ev.all (n := U.length) (g := fun k i => spec_LogicOk.l1 k U.length (optI (leastO U)) i U N) (negS U N) (go := true) (stop := false) (by omega) (fun _ => ?_) fun a ha _ R hR => ?_) (by cases allN U.length (negS U N) <;> rfl)
        · refine Ev.succ ?_
          simp only [spec_LogicOk.l1]
          repeat (first | ((with_reducible refine Ev.ite_pos ?_ ?_); (first | assumption | (focus omega) | (focus (simp; done)))) | ((with_reducible refine Ev.ite_neg ?_ ?_); (first | assumption | (focus omega) | (focus (simp; done)))))
          exact Ev.now _
        · obtain ⟨m, hm, hmn⟩ := ran a ha
          have fal : Ev (fun k => spec_LogicOk.j3 k U.length (optI (leastO U)) a true U N) false := by
            refine Ev.succ ?_
            simp only [spec_LogicOk.j3]
            repeat (first | ((with_reducible refine Ev.ite_pos ?_ ?_); (first | assumption | (focus omega) | (focus (simp; done)))) | ((with_reducible refine Ev.ite_neg ?_ ?_); (first | assumption | (focus omega) | (focus (simp; done)))))
            exact Ev.now _
          refine Ev.succ ?_
          simp only [spec_LogicOk.l1, rd_nat, hm]
          have hneg : negS U N a = (at1 N m == (a : Int) && (mI U a m == optI (leastO U) && allN U.length fun b => !leB U a b || leB U (at1 N b).toNat m)) := by unfold negS; rw [hm, Int.toNat_natCast]
          repeat (first | ((with_reducible refine Ev.ite_pos ?_ ?_); (first | assumption | (focus omega) | (focus (simp; done)))) | ((with_reducible refine Ev.ite_neg ?_ ?_); (first | assumption | (focus omega) | (focus (simp; done)))))
          by_cases e1 : at1 N m = a
          · repeat (first | ((with_reducible refine Ev.ite_pos ?_ ?_); (first | assumption | (focus omega) | (focus (simp; done)))) | ((with_reducible refine Ev.ite_neg ?_ ?_); (first | assumption | (focus omega) | (focus (simp; done)))))
            refine Ev.bind (spec_l1Meet.ev O ha hmn) ?_
            by_cases e2 : mI U a m = optI (leastO U)
            · rw [show (mI U a m != optI (leastO U)) = false by simp [e2]]
              refine Ev.succ ?_
              simp only [spec_LogicOk.j3]
              repeat (first | ((with_reducible refine Ev.ite_pos ?_ ?_); (first | assumption | (focus omega) | (focus (simp; done)))) | ((with_reducible refine Ev.ite_neg ?_ ?_); (first | assumption | (focus omega) | (focus (simp; done)))))
              have hneg2 : negS U N a = allN U.length fun b => !leB U a b || leB U (at1 N b).toNat m := by rw [hneg, show (at1 N m == (a : Int)) = true by simp [e1], show (mI U a m == optI (leastO U)) = true by simp [e2], Bool.true_and, Bool.true_and]
              rw [hneg2]
              refine Ev.all (n := U.length) (g := fun k i => spec_LogicOk.l2 k U.length (optI (leastO U)) a i U N) _ (by omega) (fun h => ?_) fun b hb _ R3 hR3 => ?_
              · refine Ev.succ ?_
                simp only [spec_LogicOk.l2]
                repeat (first | ((with_reducible refine Ev.ite_pos ?_ ?_); (first | assumption | (focus omega) | (focus (simp; done)))) | ((with_reducible refine Ev.ite_neg ?_ ?_); (first | assumption | (focus omega) | (focus (simp; done)))))
                exact hR (by rw [hneg2]; exact allN_iff.2 h)
              · obtain ⟨q, hq, hqn⟩ := ran b hb
                have vab := O.val ha hb
                have vqm := O.val hqn hmn
                have ra := O.row a ha
                have rq := O.row q hqn
                refine Ev.succ ?_
                simp only [spec_LogicOk.l2, rdL_nat, rd_nat, rd_row, hq, hm, ra, rq, vab, vqm, Int.toNat_natCast]
                rw [hq, Int.toNat_natCast] at hR3
                repeat (first | ((with_reducible refine Ev.ite_pos ?_ ?_); (first | assumption | (focus omega) | (focus (simp; done)))) | ((with_reducible refine Ev.ite_neg ?_ ?_); (first | assumption | (focus omega) | (focus (simp; done)))))
                cases f1 : leB U a b with
                | false => repeat (first | ((with_reducible refine Ev.ite_pos ?_ ?_); (first | assumption | (focus omega) | (focus (simp; done)))) | ((with_reducible refine Ev.ite_neg ?_ ?_); (first | assumption | (focus omega) | (focus (simp; done)))))
                           exact hR3 (by simp [f1])
                | true =>
                  repeat (first | ((with_reducible refine Ev.ite_pos ?_ ?_); (first | assumption | (focus omega) | (focus (simp; done)))) | ((with_reducible refine Ev.ite_neg ?_ ?_); (first | assumption | (focus omega) | (focus (simp; done)))))
                  cases f2 : leB U q m with
                  | false => repeat (first | ((with_reducible refine Ev.ite_pos ?_ ?_); (first | assumption | (focus omega) | (focus (simp; done)))) | ((with_reducible refine Ev.ite_neg ?_ ?_); (first | assumption | (focus omega) | (focus (simp; done)))))
                             exact Ev.now _
                  | true => repeat (first | ((with_reducible refine Ev.ite_pos ?_ ?_); (first | assumption | (focus omega) | (focus (simp; done)))) | ((with_reducible refine Ev.ite_neg ?_ ?_); (first | assumption | (focus omega) | (focus (simp; done)))))
                            exact hR3 (by simp [f2])
            · rw [show (mI U a m != optI (leastO U)) = true by simp [e2]]
              exact Ev.eq fal (by rw [hneg]; simp [e2])
          · repeat (first | ((with_reducible refine Ev.ite_pos ?_ ?_); (first | assumption | (focus omega) | (focus (simp; done)))) | ((with_reducible refine Ev.ite_neg ?_ ?_); (first | assumption | (focus omega) | (focus (simp; done)))))
            exact Ev.eq fal (by rw [hneg]; simp [e1])
      · refine Ev.succ ?_
        simp only [spec_LogicOk.l0, rd_nat, l1In_eq]
        repeat (first | ((with_reducible refine Ev.ite_pos ?_ ?_); (first | assumption | (focus omega) | (focus (simp; done)))) | ((with_reducible refine Ev.ite_neg ?_ ?_); (first | assumption | (focus omega) | (focus (simp; done)))))
        refine Ev.pbind rfl ?_
        have e : (decide (0 ≤ at1 N i) && decide (at1 N i ≤ wrap64 ((U.length : Int) - 1))) = (decide (0 ≤ at1 N i) && decide (at1 N i < U.length)) := by
          rw [wrap_small (by omega) (by omega)]
          congr 1
          rw [decide_eq_decide]; omega
        rw [e]
        cases hb : (decide (0 ≤ at1 N i) && decide (at1 N i < U.length)) with
        | true => repeat (first | ((with_reducible refine Ev.ite_pos ?_ ?_); (first | assumption | (focus omega) | (focus (simp; done)))) | ((with_reducible refine Ev.ite_neg ?_ ?_); (first | assumption | (focus omega) | (focus (simp; done)))))
                  exact hR hb
        | false => repeat (first | ((with_reducible refine Ev.ite_pos ?_ ?_); (first | assumption | (focus omega) | (focus (simp; done)))) | ((with_reducible refine Ev.ite_neg ?_ ?_); (first | assumption | (focus omega) | (focus (simp; done)))))
                   exact Ev.now _
    · rw [show ((N.length : Int) != (U.length : Int)) = true by rw [bne_iff_ne]; omega, show (N.length == U.length) = false by simp [hn]]
      exact Ev.eq jf (by simp)
end Go.Proofs.Ytjoadckkdophnaa.Print
end
section
namespace Go.Proofs.Ytjoadckkdophnaa.Print
open Go.RowKit Go.Proofs.YtjoadckkdophnaaW.PrintWords Go.Proofs.YtjoadckkdophnaaW.PrintLast Go.Proofs.YtjoadckkdophnaaW.PrintMore
set_option linter.unusedVariables false
set_option linter.unusedSimpArgs false
open Oml
theorem andI_nat (U : List (List Int)) (a b : Nat) : andI U a b = mI U a b := by simp [andI]
theorem orI_nat (U : List (List Int)) (a b : Nat) : orI U a b = jI U a b := by simp [orI]
theorem mI_comm (U : List (List Int)) (a b : Nat) : mI U a b = mI U b a := by unfold mI; rw [meetO_comm]
theorem jI_comm (U : List (List Int)) (a b : Nat) : jI U a b = jI U b a := by unfold jI; rw [joinO_comm]
end Go.Proofs.Ytjoadckkdophnaa.Print
end
section
namespace Go.Proofs.Ytjoadckkdophnaa.Print
open Go.RowKit Go.Proofs.YtjoadckkdophnaaW.PrintWords Go.Proofs.YtjoadckkdophnaaW.PrintLast Go.Proofs.YtjoadckkdophnaaW.PrintMore
set_option linter.unusedVariables false
set_option linter.unusedSimpArgs false
open Oml
section
variable {U : List (List Int)} {N : List Int} (L : Logic U N)
include L
theorem meet_in {a b : Int} (ha : In U a) (hb : In U b) : Ev (fun k => spec_l1Meet.f k U a b) (andI U a b) := by
  obtain ⟨x, rfl⟩ : ∃ x : Nat, a = x := ⟨a.toNat, by have := ha.1; omega⟩
  obtain ⟨y, rfl⟩ : ∃ y : Nat, b = y := ⟨b.toNat, by have := hb.1; omega⟩
  exact spec_l1Meet.ev L.toOrder (by have := ha.2; omega) (by have := hb.2; omega)
theorem join_in {a b : Int} (ha : In U a) (hb : In U b) : Ev (fun k => spec_l1Join.f k U a b) (orI U a b) := by
  obtain ⟨x, rfl⟩ : ∃ x : Nat, a = x := ⟨a.toNat, by have := ha.1; omega⟩
  obtain ⟨y, rfl⟩ : ∃ y : Nat, b = y := ⟨b.toNat, by have := hb.1; omega⟩
  exact spec_l1Join.ev L.toOrder (by have := ha.2; omega) (by have := hb.2; omega)
end
end Go.Proofs.Ytjoadckkdophnaa.Print
end
section
namespace Go.Proofs.Ytjoadckkdophnaa.Print
open Go.RowKit Go.Proofs.YtjoadckkdophnaaW.PrintWords Go.Proofs.YtjoadckkdophnaaW.PrintLast Go.Proofs.YtjoadckkdophnaaW.PrintMore
set_option linter.unusedVariables false
set_option linter.unusedSimpArgs false
open Oml
theorem goesV_ {P : Program} {ops : Array Oper} {Q : Exit → Act → World → Prop} {rest : List Oper} {oi : Oper} {a : Act} {w : World} (N : Option Tmp) (hd : oi.dst = N) (hg : oi.guard = none) {f : FuncId} {fn : Func} {x : Operand} {xo : Array Operand} {ts : Array TypeId} {cs : Array Value}
    (hf : P.funcs[f]? = some fn) (hname : (fn.name == "runtime.NumGoroutine") = false) (hb : fn.body.isSome = true) (args : Array Value)
    (hop : oi.op = .call { callee := .value x, args := xo, argTypes := ts }) (hx : a.eval x = .func (.func f) #[] cs) (hargs : xo.map a.eval = args)
    (h : Calls P f (args ++ cs) w fun e w' => ∃ v, e = .returned v ∧ wpList P ops Q rest (a.put N v) w') : wpList P ops Q (oi :: rest) a w := by
  refine wpList_plain hg fun K hK => ?_
  have he := enters_ hf hname hb (args ++ cs) w
  have hrun : (execOp a.eval oi).run P w = .ok (.enter f (args ++ cs)) w := by
    unfold execOp
    simp [hop, resolve, Deferred.ofValue, invoke, hx, hargs, he]
  unfold Oper.wp
  rw [hrun, Oper.upon_enter]
  refine h.mono fun e w'' hh => ?_
  obtain ⟨v, rfl, hk⟩ := hh
  subst hd
  exact hK _ _ hk
set_option maxHeartbeats 1000000 in
set_option maxRecDepth 100000 in
theorem every_calls (g : Nat) (U : List (List Int)) (N : List Int) (v : Adr) (w : World) (hs : U.length ≤ 12) (fv : Nat) (fn : Func) (cs : Array Value) (hf : Try.prog.funcs[fv]? = some fn) (hname : (fn.name == "runtime.NumGoroutine") = false) (hb : fn.body.isSome = true)
    (p : Nat → Nat → Bool) (J : Nat → World → Prop) (hV : ∀ i w', J i w' → View w' g U N v) (hD : ∀ i w' n, J i w' → J i (w'.drewN n)) (h0 : J 0 w)
    (step : ∀ a b : Nat, a < U.length → b < U.length → ∀ w', J (a * U.length + b) w' → Calls Try.prog fv (#[.int .i64 a, .int .i64 b] ++ cs) w' fun e w'' => e = .returned (.bool (p a b)) ∧ J (a * U.length + b + 1) w'') :
    Calls Try.prog 60 #[.pointer (some ⟨g, 0, none⟩), .func (.func fv) #[] cs] w fun e w' =>
      e = .returned (.bool (allN U.length fun a => allN U.length fun b => p a b)) ∧ ∃ i, J i w' ∧ ((allN U.length fun a => allN U.length fun b => p a b) = true → i = U.length * U.length) := by
  obtain ⟨r, hr⟩ : ∃ r, r = allN U.length fun a => allN U.length fun b => p a b := ⟨_, rfl⟩
  rw [← hr]
  have hu70 := Try.underlying57
  have HF := Aside0.mk hf
  have HNM := Aside0.mk hname
  have HBD := Aside0.mk hb
  have HV := Aside0.mk hV
  have HD := Aside0.mk hD
  have HJ0 := Aside0.mk h0
  have HST := Aside0.mk step
  have HR := Aside0.mk hr
  have hf0 := (hV 0 w h0).f0
  clear hf hname hb hV hD h0 step hr
  go_enter Try.func60, Try.ntmps60
  go_wp2_with fail
  go_loopg [12] (U.length + 1) (fun kq v12 W => ∃ i s : Nat, v12 = .int .i64 i ∧ Aside0 (i + kq = U.length + 1) ∧ Aside0 (i ≤ U.length) ∧ Aside0 (s = i * U.length) ∧ Aside0 (∀ a, a < i → ∀ b, b < U.length → p a b = true) ∧ Aside0 (J s W))
  case atStart => exact ⟨0, 0, rfl, ⟨by omega⟩, ⟨by omega⟩, ⟨by simp⟩, ⟨fun j hj => absurd hj (by omega)⟩, ⟨by first | exact HJ0.out | exact HD.out _ _ _ HJ0.out⟩⟩
  case round =>
    clear hf0
    obtain ⟨i, s, rfl, HK, HK2, HSI, HS, HJ⟩ := hrel
    have hf0 := (HV.out _ _ HJ.out).f0
    cases gk with
    | zero => exact absurd HK.out (by have := HK2.out; omega)
    | succ kn =>
    by_cases hlt : i < U.length
    · have hlt' : decide (i < U.length) = true := decide_eq_true hlt
      have HLT := Aside0.mk hlt
      clear hlt
      go_wp2_with fail
      go_loopg [20] (U.length + 1) (fun kq v20 W => ∃ j : Nat, v20 = .int .i64 j ∧ Aside0 (j + kq = U.length + 1) ∧ Aside0 (j ≤ U.length) ∧ Aside0 (∀ b, b < j → p i b = true) ∧ Aside0 (J (s + j) W))
      case atStart => exact ⟨0, rfl, ⟨by omega⟩, ⟨by omega⟩, ⟨fun j hj => absurd hj (by omega)⟩, ⟨by first | exact HJ.out | exact HD.out _ _ _ HJ.out⟩⟩
      case round =>
        clear hf0
        obtain ⟨j, rfl, HKj, HKj2, HSj, HJj⟩ := hrel
        cases gk with
        | zero => exact absurd HKj.out (by have := HKj2.out; omega)
        | succ kj =>
        by_cases hlj : j < U.length
        · have hlj' : decide (j < U.length) = true := decide_eq_true hlj
          have HLJ := Aside0.mk hlj
          clear hlj
          cases hp : p i j with
          | true =>
            have HP := Aside0.mk hp
            clear hp
            go_wp2_with (refine goesV_ (some 26) rfl rfl HF.out HNM.out HBD.out #[.int .i64 i, .int .i64 j] rfl rfl (by (try simp only [List.map_toArray, List.map_cons, List.map_nil]); first | done | rfl) ?_; refine (HST.out i j HLT.out HLJ.out _ ?sJ).mono ?_; (case sJ => first | (rw [← HSI.out]; exact HJj.out) | (rw [← HSI.out]; exact HD.out _ _ _ HJj.out)); rintro e w1 ⟨he, hj⟩; rw [HP.out] at he; subst he; refine ⟨_, rfl, ?_⟩; have HJ1 := Aside0.mk hj; clear hj)
            go_roundg kj
            case measure => omega
            case rel => exact ⟨j + 1, by first | go_num | (rw [wrap_small (by omega) (by have := HLJ.out; omega)]; go_num), ⟨by have := HKj.out; omega⟩, ⟨by have := HLJ.out; omega⟩, ⟨fun b hb => by
              rcases Nat.lt_or_ge b j with h | h
              · exact HSj.out b h
              · obtain rfl : b = j := by omega
                exact HP.out⟩, ⟨by have h1 := HJ1.out; rw [← HSI.out, Nat.add_assoc] at h1; first | exact h1 | exact HD.out _ _ _ h1⟩⟩
          | false =>
            have HP := Aside0.mk hp
            clear hp
            have hrf : r = false := by
              rw [HR.out]
              exact allN_false.2 ⟨i, HLT.out, allN_false.2 ⟨j, HLJ.out, HP.out⟩⟩
            subst hrf
            go_wp2_with (refine goesV_ (some 26) rfl rfl HF.out HNM.out HBD.out #[.int .i64 i, .int .i64 j] rfl rfl (by (try simp only [List.map_toArray, List.map_cons, List.map_nil]); first | done | rfl) ?_; refine (HST.out i j HLT.out HLJ.out _ ?sJ).mono ?_; (case sJ => first | (rw [← HSI.out]; exact HJj.out) | (rw [← HSI.out]; exact HD.out _ _ _ HJj.out)); rintro e w1 ⟨he, hj⟩; rw [HP.out] at he; subst he; refine ⟨_, rfl, ?_⟩; have HJ1 := Aside0.mk hj; clear hj)
            go_ret
            exact ⟨rfl, _, by first | exact HJ1.out | exact HD.out _ _ _ HJ1.out, fun h => by cases h⟩
        · have hlj' : decide (j < U.length) = false := decide_eq_false hlj
          obtain rfl : j = U.length := by have := HKj2.out; omega
          clear hlj
          go_wp2_with fail
          go_roundg kn
          case measure => omega
          case rel => exact ⟨i + 1, s + U.length, by first | go_num | (rw [wrap_small (by omega) (by have := HLT.out; omega)]; go_num), ⟨by have := HK.out; omega⟩, ⟨by have := HLT.out; omega⟩, ⟨by rw [Nat.succ_mul, HSI.out]⟩, ⟨fun a ha => by
            rcases Nat.lt_or_ge a i with h | h
            · exact HS.out a h
            · obtain rfl : a = i := by omega
              exact HSj.out⟩, ⟨by first | exact HJj.out | exact HD.out _ _ _ HJj.out⟩⟩
    · have hlt' : decide (i < U.length) = false := decide_eq_false hlt
      obtain rfl : i = U.length := by have := HK2.out; omega
      have hrt : r = true := by
        rw [HR.out, allN_iff]
        intro a ha
        exact allN_iff.2 (HS.out a ha)
      subst hrt
      clear hlt
      go_wp2_with fail
      go_ret
      have hj := HJ.out
      rw [HSI.out] at hj
      exact ⟨rfl, by first | exact hj | exact HD.out _ _ _ hj⟩
theorem every_pure (g : Nat) (U : List (List Int)) (N : List Int) (v : Adr) (w : World) (hs : U.length ≤ 12) (hV : View w g U N v) (fv : Nat) (fn : Func) (cs : Array Value) (hf : Try.prog.funcs[fv]? = some fn) (hname : (fn.name == "runtime.NumGoroutine") = false) (hb : fn.body.isSome = true)
    (p : Nat → Nat → Bool) (step : ∀ a b : Nat, a < U.length → b < U.length → ∀ W, Below w.heap.size w W → Calls Try.prog fv (#[.int .i64 a, .int .i64 b] ++ cs) W fun e w'' => e = .returned (.bool (p a b)) ∧ Below W.heap.size W w'') :
    Calls Try.prog 60 #[.pointer (some ⟨g, 0, none⟩), .func (.func fv) #[] cs] w fun e w' => e = .returned (.bool (allN U.length fun a => allN U.length fun b => p a b)) ∧ Below w.heap.size w w' := by
  refine (every_calls g U N v w hs fv fn cs hf hname hb p (fun _ W => Below w.heap.size w W) (fun _ W h => hV.below h) (fun _ W n h => pw_below_drewN h n) (Below.refl _ _) (fun a b ha hb' W hW => ?_)).mono ?_
  · refine (step a b ha hb' W hW).mono ?_
    rintro e w2 ⟨rfl, h2⟩
    exact ⟨rfl, below_step hW h2⟩
  · rintro e w2 ⟨rfl, i, h2, _⟩
    exact ⟨rfl, h2⟩
end Go.Proofs.Ytjoadckkdophnaa.Print
end
section
namespace Go.Proofs.Ytjoadckkdophnaa.Print
open Go.RowKit Go.Proofs.YtjoadckkdophnaaW.PrintWords Go.Proofs.YtjoadckkdophnaaW.PrintLast Go.Proofs.YtjoadckkdophnaaW.PrintMore
set_option linter.unusedVariables false
set_option linter.unusedSimpArgs false
open Oml
theorem andI_comm (U : List (List Int)) (a b : Int) : andI U a b = andI U b a := by unfold andI; exact mI_comm U _ _
theorem orI_comm (U : List (List Int)) (a b : Int) : orI U a b = orI U b a := by unfold orI; exact jI_comm U _ _
end Go.Proofs.Ytjoadckkdophnaa.Print
end
section
namespace Go.Proofs.Ytjoadckkdophnaa.Print
open Go.RowKit Go.Proofs.YtjoadckkdophnaaW.PrintWords Go.Proofs.YtjoadckkdophnaaW.PrintLast Go.Proofs.YtjoadckkdophnaaW.PrintMore
set_option linter.unusedVariables false
set_option linter.unusedSimpArgs false
attribute [local go_sem] max2_int max_two
open Oml
def hiP (U : List (List Int)) (f : Nat → Nat) (a : Nat) : Nat → Nat
  | 0 => 0
  | i + 1 => if i ≠ a ∧ leB U i a = true then (if hiP U f a i < f i + 1 then f i + 1 else hiP U f a i) else hiP U f a i
def hiF (U : List (List Int)) : Nat → Nat → Nat
  | 0, _ => 0
  | k + 1, a => hiP U (hiF U k) a U.length
theorem hiP_le {U : List (List Int)} {f : Nat → Nat} {a m : Nat} (h : ∀ b, f b ≤ m) : ∀ i, hiP U f a i ≤ m + 1
  | 0 => by unfold hiP; omega
  | i + 1 => by
    have := hiP_le h (U := U) (a := a) i
    have := h i
    unfold hiP
    split
    · split <;> omega
    · assumption
theorem hiF_le (U : List (List Int)) : ∀ k a, hiF U k a ≤ k
  | 0, _ => Nat.le_refl _
  | k + 1, a => hiP_le (fun b => hiF_le U k b) _
theorem hiP_none {U : List (List Int)} {f : Nat → Nat} {a : Nat} : ∀ i, (∀ b, b < i → b ≠ a → leB U b a = false) → hiP U f a i = 0
  | 0, _ => rfl
  | i + 1, h => by
    unfold hiP
    rw [if_neg (fun c => by rw [h i (by omega) c.1] at c; exact absurd c.2 (by simp))]
    exact hiP_none i (fun b hb => h b (by omega))
def Deep (U : List (List Int)) : Nat → Nat → Prop
  | 0, a => ∀ b, b < U.length → b ≠ a → leB U b a = false
  | k + 1, a => ∀ b, b < U.length → b ≠ a → leB U b a = true → Deep U k b
set_option maxHeartbeats 1000000 in
set_option maxRecDepth 100000 in
theorem high_step (g : Nat) (U : List (List Int)) (N : List Int) (v : Adr) (w : World) (L : Logic U N) (hV : View w g U N v) (a : Nat) (ha : a < U.length) (f : Nat → Nat) (hf : ∀ b, f b ≤ 100)
    (ih : ∀ b, b < U.length → b ≠ a → leB U b a = true → ∀ w', View w' g U N v → Calls Try.prog 66 #[.pointer (some ⟨g, 0, none⟩), .int .i64 b] w' fun e w'' => e = .returned (.int .i64 (f b)) ∧ Below w'.heap.size w' w'') :
    Calls Try.prog 66 #[.pointer (some ⟨g, 0, none⟩), .int .i64 a] w fun e w' => e = .returned (.int .i64 (hiP U f a U.length)) ∧ Below w.heap.size w w' := by
  have hu70 := Try.underlying57
  have HV := Aside0.mk hV
  have HL := Aside0.mk L
  have HF := Aside0.mk hf
  have IH := Aside0.mk ih
  have HA := Aside0.mk ha
  have hf0 := hV.f0
  have HSM := Aside0.mk L.small
  clear hV L hf ih ha
  go_enter Try.func66, Try.ntmps66
  go_wp2_with fail
  go_loopg [5, 12] (U.length + 1) (fun kq v5 v12 W => ∃ i : Nat, v12 = .int .i64 i ∧ v5 = .int .i64 (hiP U f a i) ∧ Aside0 (i + kq = U.length + 1) ∧ Aside0 (i ≤ U.length) ∧ Aside0 (Below w.heap.size w W))
  case atStart => exact ⟨0, rfl, rfl, ⟨by omega⟩, ⟨by omega⟩, ⟨by repeat (first | exact Below.refl _ _ | apply below_alloc | apply pw_below_drewN | apply below_drew1)⟩⟩
  case round =>
    clear hf0
    obtain ⟨i, rfl, rfl, HK, HK2, HB⟩ := hrel
    have HVr := Aside0.mk (HV.out.below HB.out)
    have hf0 := HVr.out.f0
    cases gk with
    | zero => exact absurd HK.out (by have := HK2.out; omega)
    | succ kn =>
    by_cases hlt : i < U.length
    · have hlt' : decide (i < U.length) = true := decide_eq_true hlt
      have HLT := Aside0.mk hlt
      have Ii := Aside0.mk (show In U (i : Int) from ⟨by omega, by have := HLT.out; omega⟩)
      have Ia := Aside0.mk (show In U (a : Int) from ⟨by omega, by have := HA.out; omega⟩)
      have k1 := HVr.out.u i Ii.out
      have k2 := HVr.out.u2 i a Ii.out Ia.out
      have v1 := HL.out.le_val Ii.out Ia.out
      simp only [Int.toNat_natCast] at k1 k2 v1
      rw [v1] at k2
      have ba : (a < U.length) = True := eq_true HA.out
      have bi : (i < U.length) = True := eq_true HLT.out
      clear v1 hlt
      by_cases hia : i = a
      · have ne : ((i : Int) != (a : Int)) = false := by simp [hia]
        have ne2 : (i != a) = false := by simp [hia]
        have HP := Aside0.mk (show hiP U f a (i + 1) = hiP U f a i by rw [hiP]; exact if_neg (fun c => c.1 hia))
        clear hia k2
        go_wp2_with fail
        go_roundg kn
        case measure => omega
        case rel => exact ⟨i + 1, by first | go_num | (rw [wrap_small (by omega) (by have := HLT.out; have := HSM.out; omega)]; go_num), by rw [HP.out], ⟨by have := HK.out; omega⟩, ⟨by have := HLT.out; omega⟩, ⟨by repeat (first | exact HB.out | apply below_alloc | apply pw_below_drewN | apply below_drew1)⟩⟩
      · have ne : ((i : Int) != (a : Int)) = true := by rw [bne_iff_ne]; omega
        have ne2 : (i != a) = true := by rw [bne_iff_ne]; exact hia
        have HNE := Aside0.mk hia
        clear hia
        cases hle : leI U i a with
        | false =>
          have HP := Aside0.mk (show hiP U f a (i + 1) = hiP U f a i by rw [hiP]; exact if_neg (fun c => by have h2 := c.2; have h3 := hle; simp only [leI, Int.toNat_natCast] at h3; rw [h3] at h2; exact absurd h2 (by simp)))
          rw [hle] at k2
          clear hle
          go_wp2_with fail
          go_roundg kn
          case measure => omega
          case rel => exact ⟨i + 1, by first | go_num | (rw [wrap_small (by omega) (by have := HLT.out; have := HSM.out; omega)]; go_num), by rw [HP.out], ⟨by have := HK.out; omega⟩, ⟨by have := HLT.out; omega⟩, ⟨by repeat (first | exact HB.out | apply below_alloc | apply pw_below_drewN | apply below_drew1)⟩⟩
        | true =>
          have HLE := Aside0.mk (show leB U i a = true by have h3 := hle; simp only [leI, Int.toNat_natCast] at h3; exact h3)
          have HP := Aside0.mk (show hiP U f a (i + 1) = if hiP U f a i < f i + 1 then f i + 1 else hiP U f a i by rw [hiP]; exact if_pos ⟨HNE.out, HLE.out⟩)
          obtain ⟨x, hx⟩ : ∃ x, x = f i := ⟨_, rfl⟩
          obtain ⟨y, hy⟩ : ∃ y, y = hiP U f a i := ⟨_, rfl⟩
          have HX := Aside0.mk hx
          have HY := Aside0.mk hy
          have hx1 : x ≤ 100 := by rw [hx]; exact HF.out i
          have hxw : wrap64 ((x : Int) + 1) = (x : Int) + 1 := by unfold wrap64; omega
          rw [hle] at k2
          rw [← hy]
          clear hle hx hy
          by_cases hxy : y < x + 1
          · have t1 : ((y : Int) < (x : Int) + 1) = True := eq_true (by omega)
            have HQ := Aside0.mk (show hiP U f a (i + 1) = x + 1 by rw [HP.out, ← HX.out, ← HY.out, if_pos hxy])
            clear hxy
            go_wp2_with (go_at_call 66; (with_reducible refine (IH.out i HLT.out HNE.out HLE.out _ ?s1).mono ?_); (case s1 => exact HV.out.below (by repeat (first | exact HB.out | apply below_alloc | apply pw_below_drewN | apply below_drew1))); rintro e w1 ⟨rfl, hb⟩; rw [← HX.out]; have HB1 := Aside0.mk (below_step (by repeat (first | exact HB.out | apply below_alloc | apply pw_below_drewN | apply below_drew1)) hb); clear hb)
            go_roundg kn
            case measure => omega
            case rel => exact ⟨i + 1, by first | go_num | (rw [wrap_small (by omega) (by have := HLT.out; have := HSM.out; omega)]; go_num), by rw [HQ.out]; go_num, ⟨by have := HK.out; omega⟩, ⟨by have := HLT.out; omega⟩, ⟨by repeat (first | exact HB1.out | apply below_alloc | apply pw_below_drewN | apply below_drew1)⟩⟩
          · have t1 : ((y : Int) < (x : Int) + 1) = False := eq_false (by omega)
            have HQ := Aside0.mk (show hiP U f a (i + 1) = y by rw [HP.out, ← HX.out, ← HY.out, if_neg hxy])
            clear hxy
            go_wp2_with (go_at_call 66; (with_reducible refine (IH.out i HLT.out HNE.out HLE.out _ ?s1).mono ?_); (case s1 => exact HV.out.below (by repeat (first | exact HB.out | apply below_alloc | apply pw_below_drewN | apply below_drew1))); rintro e w1 ⟨rfl, hb⟩; rw [← HX.out]; have HB1 := Aside0.mk (below_step (by repeat (first | exact HB.out | apply below_alloc | apply pw_below_drewN | apply below_drew1)) hb); clear hb)
            go_roundg kn
            case measure => omega
            case rel => exact ⟨i + 1, by first | go_num | (rw [wrap_small (by omega) (by have := HLT.out; have := HSM.out; omega)]; go_num), by rw [HQ.out], ⟨by have := HK.out; omega⟩, ⟨by have := HLT.out; omega⟩, ⟨by repeat (first | exact HB1.out | apply below_alloc | apply pw_below_drewN | apply below_drew1)⟩⟩
    · have hlt' : decide (i < U.length) = false := decide_eq_false hlt
      obtain rfl : i = U.length := by have := HK2.out; omega
      clear hlt
      go_wp2_with fail
      go_ret
      exact ⟨rfl, by repeat (first | exact HB.out | apply below_alloc | apply pw_below_drewN | apply below_drew1)⟩
theorem high_calls (g : Nat) (U : List (List Int)) (N : List Int) (v : Adr) (L : Logic U N) : ∀ k, k ≤ 99 → ∀ a, a < U.length → Deep U k a → ∀ w, View w g U N v →
    Calls Try.prog 66 #[.pointer (some ⟨g, 0, none⟩), .int .i64 a] w fun e w' => e = .returned (.int .i64 (hiF U k a)) ∧ Below w.heap.size w w'
  | 0, _, a, ha, hd, w, hV => by
    have := high_step g U N v w L hV a ha (fun _ => 0) (fun _ => by omega) (fun b hb hne hle => by have := hd b hb hne; rw [this] at hle; exact absurd hle (by simp))
    rw [hiP_none _ (fun b hb hne => hd b hb hne)] at this
    exact this
  | k + 1, hk, a, ha, hd, w, hV => high_step g U N v w L hV a ha (hiF U k) (fun b => Nat.le_trans (hiF_le U k b) (by omega)) (fun b hb hne hle w' hV' => high_calls g U N v L k (by omega) b hb (hd b hb hne hle) w' hV')
end Go.Proofs.Ytjoadckkdophnaa.Print
end
section
namespace Go.Proofs.Ytjoadckkdophnaa.Print
open Go.RowKit Go.Proofs.YtjoadckkdophnaaW.PrintWords Go.Proofs.YtjoadckkdophnaaW.PrintLast Go.Proofs.YtjoadckkdophnaaW.PrintMore
attribute [local go_sem] max2_int min2_int max_two min_two max_three min_three max_four min_four   -- for this text's walks alone
set_option linter.unusedVariables false
set_option linter.unusedSimpArgs false
mutual
def spec_l8High.l0 : Nat → List (List Int) → Int → Int → Int → Option (Int)
  | 0, _, _, _, _ => none
  | k + 1, x0, x1, x5, x6 => if x6 < (x0.length : Int) then (if x6 = x1 then (spec_l8High.l0 k x0 x1 x5 (wrap64 (x6 + 1))) else (if 0 ≤ x6 then (if 0 ≤ x1 then (if x1 < ((rd_L1 x0 x6).length : Int) then (if (rd (rd_L1 x0 x6) x1) = 1 then ((spec_l8High.f k x0 x6).bind fun t422 => (spec_l8High.l0 k x0 x1 (mx x5 (wrap64 (t422 + 1))) (wrap64 (x6 + 1)))) else (spec_l8High.l0 k x0 x1 x5 (wrap64 (x6 + 1)))) else (none)) else (none)) else (none))) else (some x5)
def spec_l8High.f : Nat → List (List Int) → Int → Option (Int)
  | 0, _, _ => none
  | k + 1, l0, a1 => spec_l8High.l0 k l0 a1 0 0
end
set_option maxHeartbeats 8000000 in
set_option maxRecDepth 100000 in
theorem spec_l8High.calls (k : Nat) : ∀ (A0 : Option Addr) (c0 : Nat) (l0 : List (List Int)) (a1 : Int) (r : Int) (w : World) (hr0 : Kd.C (Kd.slice 3 (Kd.int .i64)) w A0 l0.length l0) (hc0 : l0.length ≤ c0) (h : spec_l8High.f k l0 a1 = some r),
    Calls Try.prog 65 #[.slice A0 l0.length c0, .int .i64 a1] w fun e w' => e = .returned (.int .i64 r) ∧ Below w.heap.size w w' := by
  induction k using Nat.strongRecOn with
  | _ k ih =>
  intro A0 c0 l0 a1 r w hr0 hc0 h
  cases k with
  | zero => exact absurd h (by simp [spec_l8High.f])
  | succ k =>
  simp only [spec_l8High.f] at h
  have HR0 := Aside0.mk hr0
  have HC0 := Aside0.mk hc0
  clear hr0 hc0
  have HB := Aside0.mk (Below.refl w.heap.size w)
  have H : (spec_l8High.l0 k l0 a1 0 0) = some r := h
  clear h
  have H' := Aside0.mk H
  clear H
  go_enter Try.func65, Try.ntmps65
  go_wp2
  go_loopg [5, 6] k (fun kq v5 v6 w' => ∃ (x5_1 : Int) (x6_1 : Int), v5 = .int .i64 x5_1 ∧ v6 = .int .i64 x6_1 ∧ Aside0 (spec_l8High.l0 kq l0 a1 x5_1 x6_1 = some r) ∧ Aside0 (kq ≤ k) ∧ Aside0 (Below w.heap.size w w'))
  case atStart => exact ⟨(0), (0), (by first | rfl | (simp; done) | (simp [*]; done)), (by first | rfl | (simp; done) | (simp [*]; done)), H', ⟨Nat.le_refl _⟩, ⟨by repeat (first | (with_reducible first | exact HB.out | apply below_alloc | apply pw_below_drewN | apply below_drew1) | exact HB.out)⟩⟩
  case round =>
    clear H'
    try clear p2
    obtain ⟨x5_1, x6_1, rfl, rfl, HA, HK1, HB⟩ := hrel
    cases gk with
    | zero => exact absurd HA.out (by simp [spec_l8High.l0])
    | succ k1 =>
      have H := HA.out
      clear HA
      simp only [spec_l8High.l0] at H
      by_cases c3 : x6_1 < (l0.length : Int)
      · rw [if_pos c3] at H
        have c3b0 : decide (x6_1 < (l0.length : Int)) = true := decide_eq_true c3
        clear c3
        by_cases c4 : x6_1 = a1
        · rw [if_pos c4] at H
          have c4b0 : (x6_1 == a1) = true := beq_iff_eq.mpr c4
          have c4b1 : (x6_1 != a1) = false := bne_eq_false_iff_eq.mpr c4
          clear c4
          have H' := Aside0.mk H
          clear H
          go_wp2
          go_roundg k1
          case measure => have := HK1.out; omega
          case rel => exact ⟨(x5_1), (wrap64 (x6_1 + 1)), (by first | rfl | (simp; done) | (simp [*]; done)), (by first | rfl | (simp; done) | (simp [*]; done)), H', ⟨by have := HK1.out; omega⟩, ⟨by repeat (first | (with_reducible first | exact HB.out | apply below_alloc | apply pw_below_drewN | apply below_drew1) | exact HB.out)⟩⟩
        · rw [if_neg c4] at H
          have c4b0 : (x6_1 == a1) = false := beq_eq_false_iff_ne.mpr c4
          have c4b1 : (x6_1 != a1) = true := bne_iff_ne.mpr c4
          by_cases c5 : 0 ≤ x6_1
          · rw [if_pos c5] at H
            have c5b0 : decide (0 ≤ x6_1) = true := decide_eq_true c5
            clear c5
            by_cases c6 : 0 ≤ a1
            · rw [if_pos c6] at H
              have c6b0 : decide (0 ≤ a1) = true := decide_eq_true c6
              clear c6
              by_cases c7 : a1 < ((rd_L1 l0 x6_1).length : Int)
              · rw [if_pos c7] at H
                have c7b0 : decide (a1 < ((rd_L1 l0 x6_1).length : Int)) = true := decide_eq_true c7
                clear c7
                by_cases c8 : (rd (rd_L1 l0 x6_1) a1) = 1
                · rw [if_pos c8] at H
                  have c8b0 : ((rd (rd_L1 l0 x6_1) a1) == 1) = true := beq_iff_eq.mpr c8
                  have c8b1 : ((rd (rd_L1 l0 x6_1) a1) != 1) = false := bne_eq_false_iff_eq.mpr c8
                  clear c8
                  replace H := Option.bind_eq_some_iff.mp H
                  obtain ⟨t422, A90, H⟩ := H
                  replace H : (spec_l8High.l0 k1 l0 a1 (mx x5_1 (wrap64 (t422 + 1))) (wrap64 (x6_1 + 1))) = some r := H
                  have A9 := Aside0.mk A90
                  clear A90
                  obtain ⟨ji10, hji10⟩ : ∃ j_ : Int, (mx x5_1 (wrap64 (t422 + 1))) = j_ := ⟨_, rfl⟩
                  replace H : (spec_l8High.l0 k1 l0 a1 ji10 (wrap64 (x6_1 + 1))) = some r := by first | (rw [hji10] at H; exact H) | (simp only [hji10] at H ⊢; exact H)
                  (try rw [hji10] at A9)
                  have hji10_ : (if x5_1 < (wrap64 (t422 + 1)) then (wrap64 (t422 + 1)) else x5_1) = ji10 := hji10
                  have H' := Aside0.mk H
                  clear H
                  have p420 : 0 ≤ (x6_1 : Int) := of_decide_eq_true (by first | (with_reducible assumption) | assumption)
                  have q420 : x6_1 < (l0.length : Int) := of_decide_eq_true (by first | (with_reducible assumption) | assumption)
                  obtain ⟨ad420, A420_0, c420_0, e420, hx420_0, hl420_0, hi420_0⟩ := at_L1 HR0.out x6_1 p420 q420
                  cases e420
                  replace hx420_0 := (HB.out.cell (World.block_lt_of_cell? w _ hx420_0)).trans hx420_0
                  have HR420_0 := Aside0.mk hi420_0
                  have HC420_0 := Aside0.mk hl420_0
                  clear hi420_0 hl420_0
                  replace p420 := eq_true p420
                  replace q420 := eq_true q420
                  have p421 : 0 ≤ (a1 : Int) := of_decide_eq_true (by first | (with_reducible assumption) | assumption)
                  have q421 : a1 < ((rd_L1 l0 x6_1).length : Int) := of_decide_eq_true (by first | (with_reducible assumption) | assumption)
                  obtain ⟨ad421, e421, hx421_0⟩ := Kd.at_int HR420_0.out a1 p421 q421
                  cases e421
                  replace hx421_0 := (HB.out.cell (World.block_lt_of_cell? w _ hx421_0)).trans hx421_0
                  replace p421 := eq_true p421
                  replace q421 := eq_true q421
                  go_wp2_with (first | ((with_reducible refine gate_callee (f := 65) rfl ?_); refine goesL_ (some 29) rfl rfl Try.func65 (by kernel_rfl) rfl #[.slice (some ad420) l0.length c0, .int .i64 x6_1] rfl (by (try simp only [List.map_toArray, List.map_cons, List.map_nil]); first | done | rfl | (simp only [List.length_drop, List.length_take]; rfl)) ?_; (with_reducible refine (ih k1 (by have := HK1.out; omega) _ _ l0 x6_1 t422 _ ?side1 ?side2 A9.out).mono ?_); (case side1 => repeat (first | exact (Kd.C_below HR0.out HB.out) | (with_reducible refine Kd.C_alloc ?_ _) | (with_reducible refine Kd.C_drewN ?_ _) | (with_reducible refine Kd.C_drew ?_))); (case side2 => exact HC0.out); rintro e w11 ⟨rfl, hb⟩; refine ⟨_, rfl, ?_⟩; have n0_ := Aside0.mk (below_step (by repeat (first | (with_reducible first | exact HB.out | apply below_alloc | apply pw_below_drewN | apply below_drew1) | exact HB.out)) hb); clear HB; have HB := n0_; clear n0_; (try clear hb); (try clear hb2); (try clear hk); (try clear hi)))
                  go_roundg k1
                  case measure => have := HK1.out; omega
                  case rel => exact ⟨(ji10), (wrap64 (x6_1 + 1)), (by first | rfl | (simp; done) | (simp only [← hji10] <;> (first | rfl | simp)) | (simp [*]; done)), (by first | rfl | (simp; done) | (simp [*]; done)), H', ⟨by have := HK1.out; omega⟩, ⟨by repeat (first | (with_reducible first | exact HB.out | apply below_alloc | apply pw_below_drewN | apply below_drew1) | exact HB.out)⟩⟩
                · rw [if_neg c8] at H
                  have c8b0 : ((rd (rd_L1 l0 x6_1) a1) == 1) = false := beq_eq_false_iff_ne.mpr c8
                  have c8b1 : ((rd (rd_L1 l0 x6_1) a1) != 1) = true := bne_iff_ne.mpr c8
                  have H' := Aside0.mk H
                  clear H
                  have p420 : 0 ≤ (x6_1 : Int) := of_decide_eq_true (by first | (with_reducible assumption) | assumption)
                  have q420 : x6_1 < (l0.length : Int) := of_decide_eq_true (by first | (with_reducible assumption) | assumption)
                  obtain ⟨ad420, A420_0, c420_0, e420, hx420_0, hl420_0, hi420_0⟩ := at_L1 HR0.out x6_1 p420 q420
                  cases e420
                  replace hx420_0 := (HB.out.cell (World.block_lt_of_cell? w _ hx420_0)).trans hx420_0
                  have HR420_0 := Aside0.mk hi420_0
                  have HC420_0 := Aside0.mk hl420_0
                  clear hi420_0 hl420_0
                  replace p420 := eq_true p420
                  replace q420 := eq_true q420
                  have p421 : 0 ≤ (a1 : Int) := of_decide_eq_true (by first | (with_reducible assumption) | assumption)
                  have q421 : a1 < ((rd_L1 l0 x6_1).length : Int) := of_decide_eq_true (by first | (with_reducible assumption) | assumption)
                  obtain ⟨ad421, e421, hx421_0⟩ := Kd.at_int HR420_0.out a1 p421 q421
                  cases e421
                  replace hx421_0 := (HB.out.cell (World.block_lt_of_cell? w _ hx421_0)).trans hx421_0
                  replace p421 := eq_true p421
                  replace q421 := eq_true q421
                  go_wp2
                  go_roundg k1
                  case measure => have := HK1.out; omega
                  case rel => exact ⟨(x5_1), (wrap64 (x6_1 + 1)), (by first | rfl | (simp; done) | (simp [*]; done)), (by first | rfl | (simp; done) | (simp [*]; done)), H', ⟨by have := HK1.out; omega⟩, ⟨by repeat (first | (with_reducible first | exact HB.out | apply below_alloc | apply pw_below_drewN | apply below_drew1) | exact HB.out)⟩⟩
              · rw [if_neg c7] at H
                exact absurd H (by simp)
            · rw [if_neg c6] at H
              exact absurd H (by simp)
          · rw [if_neg c5] at H
            exact absurd H (by simp)
      · rw [if_neg c3] at H
        have c3b0 : decide (x6_1 < (l0.length : Int)) = false := decide_eq_false c3
        clear c3
        obtain rfl := Option.some.inj H
        go_wp2
        go_ret
        exact ⟨by first | rfl | (simp [errW_none, errW_some] <;> rfl) | (simp [*, errW_none, errW_some] <;> rfl), by repeat (first | (with_reducible first | exact HB.out | apply below_alloc | apply pw_below_drewN | apply below_drew1) | exact HB.out)⟩
end Go.Proofs.Ytjoadckkdophnaa.Print
end
section
namespace Go.Proofs.Ytjoadckkdophnaa.Print
open Go.RowKit Go.Proofs.YtjoadckkdophnaaW.PrintWords Go.Proofs.YtjoadckkdophnaaW.PrintLast Go.Proofs.YtjoadckkdophnaaW.PrintMore
set_option linter.unusedVariables false
set_option linter.unusedSimpArgs false
open Oml
theorem filt_lt {p q : Nat → Bool} : ∀ l : List Nat, (∀ x, x ∈ l → p x = true → q x = true) → (∃ x, x ∈ l ∧ q x = true ∧ p x = false) → (l.filter p).length < (l.filter q).length
  | [], _, ⟨x, hx, _⟩ => absurd hx (by simp)
  | y :: l, h, ⟨x, hx, h1, h2⟩ => by
    have hle : ∀ l : List Nat, (∀ x, x ∈ l → p x = true → q x = true) → (l.filter p).length ≤ (l.filter q).length := by
      intro l
      induction l with
      | nil => intro _; exact Nat.le_refl _
      | cons z l ih =>
        intro hh
        have := ih fun x hx => hh x (List.mem_cons_of_mem _ hx)
        cases hz : p z with
        | true => simp [hz, hh z (by simp) hz]; exact this
        | false => cases hq : q z <;> simp [hz, hq] <;> omega
    have hl := hle l fun x hx => h x (List.mem_cons_of_mem _ hx)
    rcases List.mem_cons.1 hx with rfl | hx
    · simp [h1, h2]; omega
    · have := filt_lt l (fun x hx => h x (List.mem_cons_of_mem _ hx)) ⟨x, hx, h1, h2⟩
      cases hz : p y with
      | true => simp [hz, h y (by simp) hz]; exact this
      | false => cases hq : q y <;> simp [hz, hq] <;> omega
def cntB (U : List (List Int)) (a : Nat) : Nat := ((List.range U.length).filter fun b => !(b == a) && leB U b a).length
theorem cntB_lt {U : List (List Int)} (O : Order U) {a b : Nat} (ha : a < U.length) (hb : b < U.length) (hne : b ≠ a) (hle : leB U b a = true) : cntB U b < cntB U a := by
  refine filt_lt _ (fun x hx h => ?_) ⟨b, by simpa using hb, by simp [hne, hle], by simp⟩
  simp only [Bool.and_eq_true, Bool.not_eq_true', beq_eq_false_iff_ne] at h ⊢
  have hx' : x < U.length := by simpa using hx
  refine ⟨fun e => ?_, O.trans x b a hx' hb ha h.2 hle⟩
  subst e
  exact h.1 (O.anti x b hx' hb h.2 hle)
theorem deep_cnt {U : List (List Int)} (O : Order U) : ∀ k a, a < U.length → cntB U a ≤ k → Deep U k a
  | 0, a, ha, h => fun b hb hne => by
    cases e : leB U b a with
    | false => rfl
    | true => have := cntB_lt O ha hb hne e; omega
  | k + 1, a, ha, h => fun b hb hne hle => deep_cnt O k b hb (by have := cntB_lt O ha hb hne hle; omega)
theorem deep_all {U : List (List Int)} (O : Order U) {a : Nat} (ha : a < U.length) : Deep U U.length a :=
  deep_cnt O _ a ha (by unfold cntB; exact Nat.le_trans (List.length_filter_le _ _) (by simp))
def hiI (U : List (List Int)) (a : Int) : Int := (hiF U U.length a.toNat : Nat)
theorem high_in (g : Nat) (U : List (List Int)) (N : List Int) (v : Adr) (L : Logic U N) {a : Int} (ia : In U a) (w : World) (hV : View w g U N v) :
    Calls Try.prog 66 #[.pointer (some ⟨g, 0, none⟩), .int .i64 a] w fun e w' => e = .returned (.int .i64 (hiI U a)) ∧ Below w.heap.size w w' := by
  obtain ⟨x, rfl⟩ : ∃ x : Nat, a = x := ⟨a.toNat, by have := ia.1; omega⟩
  have hx : x < U.length := by have := ia.2; omega
  exact high_calls g U N v L U.length (by have := L.small; omega) x hx (deep_all L.toOrder hx) w hV
theorem spec_high_step {U : List (List Int)} (O : Order U) {a : Nat} (ha : a < U.length) {f : Nat → Nat} (hf : ∀ b, f b ≤ 100) (ih : ∀ b, b < U.length → b ≠ a → leB U b a = true → Ev (fun k => spec_l8High.f k U b) (f b : Int)) :
    Ev (fun k => spec_l8High.f k U a) (hiP U f a U.length : Int) := by
  have hs := O.small
  refine Ev.succ ?_
  simp only [spec_l8High.f]
  refine Ev.loop (g := fun k s i => spec_l8High.l0 k U a s i) U.length (fun i s => s = (hiP U f a i : Int)) (by omega) (fun s h => ?_) (fun i s hi h => ?_) 0 (by simp [hiP])
  · subst h
    refine Ev.succ ?_
    simp only [spec_l8High.l0]
    repeat (first | ((with_reducible refine Ev.ite_pos ?_ ?_); (first | assumption | (focus omega) | (focus (simp; done)))) | ((with_reducible refine Ev.ite_neg ?_ ?_); (first | assumption | (focus omega) | (focus (simp; done)))))
    exact Ev.now _
  · subst h
    refine ⟨_, rfl, fun K => Ev.succ ?_⟩
    have hrow := O.row i hi
    have via := O.val hi ha
    simp only [spec_l8High.l0, rdL_nat, rd_nat, rd_row, hrow, via]
    by_cases e : i = a
    · repeat (first | ((with_reducible refine Ev.ite_pos ?_ ?_); (first | assumption | (focus omega) | (focus (simp; done)))) | ((with_reducible refine Ev.ite_neg ?_ ?_); (first | assumption | (focus omega) | (focus (simp; done)))))
      rw [show hiP U f a (i + 1) = hiP U f a i by rw [hiP]; exact if_neg fun c => c.1 e] at K
      exact K
    · repeat (first | ((with_reducible refine Ev.ite_pos ?_ ?_); (first | assumption | (focus omega) | (focus (simp; done)))) | ((with_reducible refine Ev.ite_neg ?_ ?_); (first | assumption | (focus omega) | (focus (simp; done)))))
      cases hle : leB U i a with
      | false =>
        repeat (first | ((with_reducible refine Ev.ite_pos ?_ ?_); (first | assumption | (focus omega) | (focus (simp; done)))) | ((with_reducible refine Ev.ite_neg ?_ ?_); (first | assumption | (focus omega) | (focus (simp; done)))))
        rw [show hiP U f a (i + 1) = hiP U f a i by rw [hiP]; exact if_neg fun c => by rw [hle] at c; exact absurd c.2 (by simp)] at K
        exact K
      | true =>
        repeat (first | ((with_reducible refine Ev.ite_pos ?_ ?_); (first | assumption | (focus omega) | (focus (simp; done)))) | ((with_reducible refine Ev.ite_neg ?_ ?_); (first | assumption | (focus omega) | (focus (simp; done)))))
        refine Ev.bind (ih i hi e hle) ?_
        have hx1 := hf i
        have hx2 := hiP_le (U := U) (a := a) hf i
        rw [show wrap64 ((f i : Int) + 1) = ((f i + 1 : Nat) : Int) by unfold wrap64; omega]
        rw [show hiP U f a (i + 1) = if hiP U f a i < f i + 1 then f i + 1 else hiP U f a i by rw [hiP]; exact if_pos ⟨e, hle⟩] at K
        rw [show mx (hiP U f a i : Int) ((f i + 1 : Nat) : Int) = ((if hiP U f a i < f i + 1 then f i + 1 else hiP U f a i : Nat) : Int) by unfold mx; split <;> split <;> omega]
        exact K
theorem spec_l8High.ev {U : List (List Int)} (O : Order U) : ∀ k, k ≤ 99 → ∀ a, a < U.length → Deep U k a → Ev (fun m => spec_l8High.f m U a) (hiF U k a : Int)
  | 0, _, a, ha, hd => by
    have := spec_high_step O ha (f := fun _ => 0) (fun _ => by omega) (fun b hb hne hle => by have := hd b hb hne; rw [this] at hle; exact absurd hle (by simp))
    rw [hiP_none _ (fun b hb hne => hd b hb hne)] at this
    exact this
  | k + 1, hk, a, ha, hd => spec_high_step O ha (fun b => Nat.le_trans (hiF_le U k b) (by omega)) (fun b hb hne hle => spec_l8High.ev O k (by omega) b hb (hd b hb hne hle))
theorem spec_high_in {U : List (List Int)} (O : Order U) {a : Int} (ia : In U a) : Ev (fun m => spec_l8High.f m U a) (hiI U a) := by
  obtain ⟨x, rfl⟩ : ∃ x : Nat, a = x := ⟨a.toNat, by have := ia.1; omega⟩
  have hx : x < U.length := by have := ia.2; omega
  exact spec_l8High.ev O U.length (by have := O.small; omega) x hx (deep_all O hx)
end Go.Proofs.Ytjoadckkdophnaa.Print
end
section
namespace Go.Proofs.Ytjoadckkdophnaa.Print
open Go.RowKit Go.Proofs.YtjoadckkdophnaaW.PrintWords Go.Proofs.YtjoadckkdophnaaW.PrintLast Go.Proofs.YtjoadckkdophnaaW.PrintMore
set_option linter.unusedVariables false
set_option linter.unusedSimpArgs false
open Oml
def hiL (U : List (List Int)) (n : Nat) : List Int := (List.range n).map fun (a : Nat) => hiI U (a : Int)
theorem hiL_succ (U : List (List Int)) (n : Nat) : hiL U (n + 1) = hiL U n ++ [hiI U (n : Int)] := by simp [hiL, List.range_succ]
theorem hiL_length (U : List (List Int)) (n : Nat) : (hiL U n).length = n := by simp [hiL]
theorem hiL_at {U : List (List Int)} {n : Nat} {a : Int} (h0 : 0 ≤ a) (h1 : a < n) : at1 (hiL U n) a.toNat = hiI U a := by
  have h2 : a.toNat < n := by omega
  have h3 : ((a.toNat : Nat) : Int) = a := by omega
  simp [at1, hiL, h2, h3]
def addT (U : List (List Int)) (a b : Int) : Bool := wrap64 (hiI U a + hiI U b) == wrap64 (hiI U (andI U a b) + hiI U (orI U a b))
def addB (U : List (List Int)) : Bool := allN U.length fun a => allN U.length fun b => addT U a b
theorem add_c1 (g : Nat) (U : List (List Int)) (N : List Int) (v : Adr) (w : World) (L : Logic U N) (hV : View w g U N v) (gH gG : Nat) (A : Option Addr) (cH : Nat) (hr : Kd.C (Kd.int .i64) w A U.length (hiL U U.length)) (a b : Int) (ia : In U a) (ib : In U b)
    (hH : w.heap[gH]? = some (.cells #[.slice A U.length cH] 24 (0, 0))) (hG : w.heap[gG]? = some (.cells #[.pointer (some ⟨g, 0, none⟩)] 53 (0, 0))) :
    Calls Try.prog 67 #[.int .i64 a, .int .i64 b, .pointer (some ⟨gH, 0, none⟩), .pointer (some ⟨gG, 0, none⟩)] w fun e w' => e = .returned (.bool (addT U a b)) ∧ Below w.heap.size w w' := by
  have hu70 := Try.underlying57
  have HV := Aside0.mk hV
  have HLg := Aside0.mk L
  have Ia := Aside0.mk ia
  have Ib := Aside0.mk ib
  obtain ⟨ad, rfl, h_⟩ := ints_cell hr a ia.1 (by have := ia.2; omega)
  clear h_
  have hcell_ : ∀ x, In U x → w.cell? (ad.add x.toNat) = some (.int .i64 (hiI U x)) := fun x hx => by
    obtain ⟨ad', e', h2⟩ := ints_cell hr x hx.1 (by have := hx.2; omega)
    cases e'
    rw [h2, hiL_at hx.1 hx.2]
  have x0 : w.cell? ⟨gH, 0, none⟩ = some (.slice (some ad) U.length cH) := (blk_cell hH 0).trans rfl
  have x1 : w.cell? ⟨gG, 0, none⟩ = some (.pointer (some ⟨g, 0, none⟩)) := (blk_cell hG 0).trans rfl
  clear hV L ia ib hH hG hr
  have b0_ := eq_true Ia.out.1; have c0_ := eq_true Ia.out.2
  have b1_ := eq_true Ib.out.1; have c1_ := eq_true Ib.out.2
  have hf1_ := HV.out.f1
  have r3_ := HV.out.m a Ia.out
  have s4_ := HV.out.m2 a b Ia.out Ib.out
  have hf2_ := HV.out.f2
  have r6_ := HV.out.j a Ia.out
  have s7_ := HV.out.j2 a b Ia.out Ib.out
  have IN1_ := Aside0.mk (HLg.out.in_and Ia.out Ib.out)
  have b8_ := eq_true IN1_.out.1; have c8_ := eq_true IN1_.out.2
  have IN2_ := Aside0.mk (HLg.out.in_or Ia.out Ib.out)
  have b9_ := eq_true IN2_.out.1; have c9_ := eq_true IN2_.out.2
  have q1_ := hcell_ a Ia.out
  have q2_ := hcell_ b Ib.out
  have q3_ := hcell_ (andI U a b) IN1_.out
  have q4_ := hcell_ (orI U a b) IN2_.out
  clear hcell_
  unfold addT
  go_enter Try.func67, Try.ntmps67
  go_wp2_with fail
  go_quiet (fail)
  go_wp2
  go_ret
  exact ⟨by first | rfl | (simp only [i64_w]; rfl) | (show Ending.returned (Value.bool (IntKind.i64.wrap _ == IntKind.i64.wrap _)) = _; simp only [i64_w]), by repeat (first | exact Below.refl _ _ | apply pw_below_drewN | apply below_drew1)⟩
def impl_AddsUpOk.T8 : Bool × List (List Nat × List Nat) := (true, [([], []), ([], []), ([], []), ([1, 2], [1, 2]), ([3], [3]), ([0, 4, 3], [0, 4]), ([5, 5, 0, 1, 2, 3, 4, 5], [5])])
def impl_AddsUpOk.B8 : List Nat := [0, 0, 0, 6, 14, 31, 63]
theorem impl_AddsUpOk.tab8 : rtab .any (opsOf Try.f33 8) = impl_AddsUpOk.T8 := by kernel_rfl
theorem impl_AddsUpOk.bits8 : waitsOk impl_AddsUpOk.T8.2 impl_AddsUpOk.B8 = true := by kernel_rfl
def impl_AddsUpOk.f (l0_0 : List (List Int)) (l0_1 : List Int) : Option (Bool) := some (if logicB l0_0 l0_1 = true then addB l0_0 else false)
set_option maxHeartbeats 4000000 in
set_option maxRecDepth 100000 in
theorem impl_AddsUpOk.calls (A0_0 : Option Addr) (c0_0 : Nat) (l0_0 : List (List Int)) (A0_1 : Option Addr) (c0_1 : Nat) (l0_1 : List Int) (r : Bool) (w : World) (hr0_0 : Kd.C (Kd.slice 3 (Kd.int .i64)) w A0_0 l0_0.length l0_0) (hc0_0 : l0_0.length ≤ c0_0) (hr0_1 : Kd.C (Kd.int .i64) w A0_1 l0_1.length l0_1) (hc0_1 : l0_1.length ≤ c0_1) (h : impl_AddsUpOk.f l0_0 l0_1 = some r) :
    Calls Try.prog 33 #[.agg #[.slice A0_0 l0_0.length c0_0, .slice A0_1 l0_1.length c0_1]] w fun e w' => e = .returned (.bool r) ∧ Below w.heap.size w w' := by
  obtain ⟨k, hF⟩ := told_facts l0_0
  have hu30 := Try.underlying29
  have hu70 := Try.underlying57
  have HF := Aside0.mk hF
  have HR0 := Aside0.mk hr0_0
  have HC0 := Aside0.mk hc0_0
  have HR1 := Aside0.mk hr0_1
  have HC1 := Aside0.mk hc0_1
  simp only [impl_AddsUpOk.f, Option.some.injEq] at h
  clear hr0_0 hc0_0 hr0_1 hc0_1 hF
  cases hL : logicB l0_0 l0_1 with
  | false =>
    rw [hL] at h
    have hr_ : false = r := by simpa using h
    subst hr_
    have HLB := Aside0.mk hL
    clear h hL
    go_enter Try.func33, Try.ntmps33
    go_wp2_with (first | ((with_reducible refine gate_dst (N := 1) rfl ?_); refine box_event ?hg (N := 1) ?hd (cs := #[.slice A0_0 l0_0.length c0_0, .slice A0_1 l0_1.length c0_1]) (t := 29) ?hr ?_; (case hd => rfl); (case hg => rfl); (case hr => first | (go_simp; done) | (go_simp; rfl)); intro gb hg_ w1 hbox hb; have HB := Aside0.mk hb; have hx0 : w1.cell? ⟨gb, 0, none⟩ = some (.slice A0_0 l0_0.length c0_0) := (blk_cell hbox 0).trans rfl; have hx1 : w1.cell? ⟨gb, 1, none⟩ = some (.slice A0_1 l0_1.length c0_1) := (blk_cell hbox 1).trans rfl; have HX := Aside0.mk hbox; clear hbox hb hg_) | (go_at_call 55; (with_reducible refine (told_n k _ _ l0_0 _ _ l0_1 _ ?s1 ?s2 ?s3 ?s4 HF.out HLB.out).mono ?_); (case s1 => exact Kd.C_below HR0.out HB.out); (case s2 => exact HC0.out); (case s3 => exact Kd.C_below HR1.out HB.out); (case s4 => exact HC1.out); rintro e w2 ⟨rfl, hb⟩; have HB2 := Aside0.mk (below_step HB.out hb); clear hb hx0 hx1 HX HB))
    go_ret
    exact ⟨rfl, by repeat (first | exact HB2.out | apply below_alloc | apply pw_below_drewN | apply below_drew1)⟩
  | true =>
    rw [hL] at h
    have hr_ : addB l0_0 = r := by simpa using h
    subst hr_
    have HLB := Aside0.mk hL
    have HLg := Aside0.mk (logicB_iff.1 hL)
    have HSM := Aside0.mk (logicB_iff.1 hL).small
    clear h hL
    go_enter Try.func33, Try.ntmps33
    go_wp2_with (first | ((with_reducible refine gate_dst (N := 1) rfl ?_); refine box_event ?hg (N := 1) ?hd (cs := #[.slice A0_0 l0_0.length c0_0, .slice A0_1 l0_1.length c0_1]) (t := 29) ?hr ?_; (case hd => rfl); (case hg => rfl); (case hr => first | (go_simp; done) | (go_simp; rfl)); intro gb hg_ w1 hbox hb; have HB := Aside0.mk hb; have hx0 : w1.cell? ⟨gb, 0, none⟩ = some (.slice A0_0 l0_0.length c0_0) := (blk_cell hbox 0).trans rfl; have hx1 : w1.cell? ⟨gb, 1, none⟩ = some (.slice A0_1 l0_1.length c0_1) := (blk_cell hbox 1).trans rfl; have HX := Aside0.mk hbox; clear hbox hb hg_) | (go_at_call 55; (with_reducible refine (told_y k _ _ l0_0 _ _ l0_1 _ ?s1 ?s2 ?s3 ?s4 HF.out HLB.out).mono ?_); (case s1 => exact Kd.C_below HR0.out HB.out); (case s2 => exact HC0.out); (case s3 => exact Kd.C_below HR1.out HB.out); (case s4 => exact HC1.out); rintro e w2 ⟨g, v, rfl, hv, hge, hb⟩; have HB2 := Aside0.mk (below_step HB.out hb); have HV := Aside0.mk hv; clear hv hge hb hx0 hx1 HX HB) | ((with_reducible refine gate_dst (N := 10) rfl ?_); refine Kd.R_lit (Kd.int .i64) _ 3 ?hg2 (N := 10) ?hd2 (xs := ([] : List Int)) (inner := []) (ok := fun _ => True) (okp := fun _ => True) ?hr2 ?hp2 (fun _ hk => hk) trivial (Below.refl _ _) (Nat.le_refl _) (by simp) ?_; (case hd2 => rfl); (case hg2 => rfl); (case hr2 => first | (go_simp; done) | (go_simp; rfl)); (case hp2 => exact (Reps.none _ _)); intro vH0 wl ho5 hb hg_ hnew_; obtain ⟨AH0, cH0, rfl⟩ := Kd.R_slice ho5; clear hg_ hnew_; have HBX := Aside0.mk (below_step (below_alloc (Below.refl w2.heap.size w2) _) hb); have HG := Aside0.mk (blk_below (MapKept.heap_alloc w2 _).1 hb); have HO := Aside0.mk (Kd.R_lower ho5 (below_size (below_alloc (Below.refl w2.heap.size w2) _))); have hf0 := (HV.out.below (below_alloc HBX.out (.cells #[.slice AH0 0 cH0] 24))).f0; have hb0 : (wl.alloc (.cells #[.slice AH0 0 cH0] 24)).cell? ⟨w2.heap.size, 0, none⟩ = some (.pointer (some ⟨g, 0, none⟩)) := (blk_cell (blk_alloc HG.out _) 0).trans rfl; clear ho5 hb))
    have HGE := Aside0.mk (show w2.heap.size ≤ wl.heap.size from below_size HBX.out)
    have HNE := Aside0.mk (show wl.heap.size ≠ w2.heap.size by have := blk_lt HG.out; omega)
    have HH := Aside0.mk (show (wl.alloc (.cells #[.slice AH0 ([] : List Int).length cH0] 24)).heap[wl.heap.size]? = some (.cells #[.slice AH0 ([] : List Int).length cH0] 24 (0, 0)) from (MapKept.heap_alloc wl _).1)
    go_loopg [16] (l0_0.length + 1) (fun kq v16 W => ∃ (i : Nat) (AH : Option Addr) (cH : Nat), v16 = .int .i64 i ∧ Aside0 (i + kq = l0_0.length + 1) ∧ Aside0 (i ≤ l0_0.length) ∧ Aside0 (W.heap[wl.heap.size]? = some (.cells #[.slice AH (hiL l0_0 i).length cH] 24 (0, 0))) ∧ Aside0 (Kd.R (Kd.int .i64) 3 W w2.heap.size (fun _ => True) (.slice AH (hiL l0_0 i).length cH) (hiL l0_0 i)) ∧ Aside0 (W.heap[w2.heap.size]? = some (.cells #[.pointer (some ⟨g, 0, none⟩)] 53 (0, 0))) ∧ Aside0 (Below w2.heap.size w2 W))
    case atStart => exact ⟨0, AH0, cH0, rfl, ⟨by omega⟩, ⟨by omega⟩, HH, ⟨Kd.R_alloc HO.out _⟩, ⟨blk_alloc HG.out _⟩, ⟨below_alloc HBX.out _⟩⟩
    case round =>
      clear hf0 hb0
      obtain ⟨i, AH, cH, rfl, HK, HK2, HHr, HOr, HGr, HBr⟩ := hrel
      have hf0 := (HV.out.below HBr.out).f0
      have hb0 : wr.cell? ⟨w2.heap.size, 0, none⟩ = some (.pointer (some ⟨g, 0, none⟩)) := (blk_cell HGr.out 0).trans rfl
      cases gk with
      | zero => exact absurd HK.out (by have := HK2.out; omega)
      | succ kn =>
      by_cases hlt : i < l0_0.length
      · have hlt' : decide (i < l0_0.length) = true := decide_eq_true hlt
        have HLT := Aside0.mk hlt
        clear hlt
        go_wp2_with fail
        refine start_ (n := 7) (S := (fun w' => w'.cell? ⟨wl.heap.size, 0, none⟩ = some (.slice AH (hiL l0_0 i).length cH) ∧ w'.cell? ⟨w2.heap.size, 0, none⟩ = some (.pointer (some ⟨g, 0, none⟩)))) (ds := [6]) #[false, false, false, false, false, false, false] (by kernel_rfl) rfl rfl ⟨(blk_cell (blk_drew HHr.out) 0).trans rfl, (blk_cell (blk_drew HGr.out) 0).trans rfl⟩ (fun hHeld => ?_)
        refine with_tabW impl_AddsUpOk.tab8 impl_AddsUpOk.bits8 (fun HT_ HW_ => ?_)
        generalize hwd : wr.drew = wd at hHeld ⊢
        have HBd := Aside0.mk (show Below w2.heap.size w2 wd from hwd ▸ below_drew1 HBr.out)
        replace HHr := Aside0.mk (hwd ▸ blk_drew HHr.out)
        replace HGr := Aside0.mk (hwd ▸ blk_drew HGr.out)
        replace HOr := Aside0.mk (hwd ▸ Kd.R_drew HOr.out)
        clear hwd HBr
        refine take_ (i := 0) (N := some 19) (v := ?_) (a' := ?_) #[true, false, false, false, false, false, false] rfl rfl (take_ofW HT_.out HW_.out (by kernel_rfl)) (fun _ _ _ h => h) (Or.inl ⟨by rfl, ?_⟩) hHeld ?_ ?_
        rotate_left
        · rintro w' ⟨s0, s1⟩; go_simp; with_reducible rfl
        rotate_left
        · simp only [Act.put, List.setIfInBounds_toArray, List.set_cons_zero, List.set_cons_succ, i64_w, i32_w]; rfl
        refine take_ (i := 1) (N := some 20) (v := ?_) (a' := ?_) #[true, true, false, false, false, false, false] rfl rfl (take_ofW HT_.out HW_.out (by kernel_rfl)) (fun _ _ _ h => h) (Or.inl ⟨by rfl, ?_⟩) hHeld ?_ ?_
        rotate_left
        · rintro w' ⟨s0, s1⟩; go_simp; with_reducible rfl
        rotate_left
        · simp only [Act.put, List.setIfInBounds_toArray, List.set_cons_zero, List.set_cons_succ, i64_w, i32_w]; rfl
        refine pure_ (i := 2) (N := some 21) (v := ?_) (a' := ?_) #[true, true, true, false, false, false, false] rfl rfl (any_of HT_.out (by kernel_rfl)) (fun _ _ _ h => h) (Or.inl ⟨by rfl, ?_⟩) ?_ ?_
        rotate_left
        · intro w'; go_simp; with_reducible rfl
        rotate_left
        · simp only [Act.put, List.setIfInBounds_toArray, List.set_cons_zero, List.set_cons_succ, i64_w, i32_w]; rfl
        refine one_ (i := 3) (N := some 22) #[true, true, true, true, false, false, false] rfl rfl (one_of HT_.out (by kernel_rfl)) (by decide) (fun K hK => ?_)
        refine goes_ Try.func66 (by kernel_rfl) rfl #[.pointer (some ⟨g, 0, none⟩), .int .i64 i] (by rfl) rfl rfl (by (try simp only [List.map_toArray, List.map_cons, List.map_nil]); first | done | rfl) ?_
        refine (high_in g l0_0 l0_1 v HLg.out (a := (i : Int)) ⟨by omega, by have := HLT.out; omega⟩ wd (HV.out.below HBd.out)).mono ?_
        rintro e w4 ⟨rfl, hb⟩
        refine ⟨_, rfl, ?_⟩
        have HH4 := Aside0.mk (blk_below HHr.out hb)
        have HG4 := Aside0.mk (blk_below HGr.out hb)
        have HO4 := Aside0.mk (Kd.R_below HOr.out hb)
        have HB4 := Aside0.mk (below_step HBd.out hb)
        refine hK.out _ _ ⟨(blk_cell HH4.out 0).trans rfl, (blk_cell HG4.out 0).trans rfl⟩ (fun hHeld4 => ?_)
        clear hK K hb HHr HGr HOr HBd
        (try simp only [Act.put, List.setIfInBounds_toArray, List.set_cons_zero, List.set_cons_succ])
        refine one_ (i := 4) (N := some 23) #[true, true, true, true, true, false, false] rfl rfl (one_of HT_.out (by kernel_rfl)) (by decide) (fun K hK => ?_)
        refine event_step (w1 := World.alloc w4 (.cells #[.int .i64 (hiI l0_0 i)] 3)) (v := .slice (some ⟨w4.heap.size, 0, none⟩) 1 1) (by rfl) ?hr1 ?_
        case hr1 => first | (go_simp; done) | (go_simp; rfl)
        refine hK.out _ _ ⟨(blk_cell (blk_alloc HH4.out _) 0).trans rfl, (blk_cell (blk_alloc HG4.out _) 0).trans rfl⟩ (fun hHeld5 => ?_)
        clear hK K
        (try simp only [Act.put, List.setIfInBounds_toArray, List.set_cons_zero, List.set_cons_succ])
        refine one_ (i := 5) (N := some 24) #[true, true, true, true, true, true, false] rfl rfl (one_of HT_.out (by kernel_rfl)) (by decide) (fun K hK => ?_)
        refine Kd.R_append_step (Kd.int .i64) (w0 := w2) w2.heap.size (by rfl) (.tmp 19) (.tmp 23) 24 3 (.int .i64 0) 8 rfl Try.underlying24 infoInt rfl (by decide) (by omega) (.slice AH (hiL l0_0 i).length cH) (hiL l0_0 i) (hiI l0_0 i) [.int .i64 (hiI l0_0 i)] (fun _ => True) (fun _ => False) rfl rfl rfl (fun _ hk => hk.elim) (fun _ _ => trivial) HO4.out HB4.out (below_size HB4.out) (by have := HLT.out; have := HSM.out; rw [hiL_length]; omega) ?_
        intro v5 w5 ho hb hg hat
        rw [← hiL_succ] at ho
        obtain ⟨A5, c5, rfl⟩ := Kd.R_slice ho
        have HH5 := Aside0.mk (blk_grown (g := wl.heap.size) (o := .cells #[.slice AH (hiL l0_0 i).length cH] 24 (0, 0)) HH4.out hg (Kd.R_ne HO4.out HH4.out (by decide)))
        have HG5 := Aside0.mk (blk_grown (g := w2.heap.size) (o := .cells #[.pointer (some ⟨g, 0, none⟩)] 53 (0, 0)) HG4.out hg (Kd.R_ne HO4.out HG4.out (by decide)))
        have HO5 := Aside0.mk ho
        have HB5 := Aside0.mk hb
        refine hK.out _ _ ⟨(blk_cell HH5.out 0).trans rfl, (blk_cell HG5.out 0).trans rfl⟩ (fun hHeld6 => ?_)
        clear hK K ho hb hg hat HH4 HG4 HO4 HB4
        (try simp only [Act.put, List.setIfInBounds_toArray, List.set_cons_zero, List.set_cons_succ])
        have hs_ : w5.cell? ⟨wl.heap.size, 0, none⟩ = some (.slice AH (hiL l0_0 i).length cH) := (blk_cell HH5.out 0).trans rfl
        have hf_ := blk_frozen HH5.out 0
        refine last_ (i := 6) (N := none) #[true, true, true, true, true, true, true] rfl rfl (one_of HT_.out (by kernel_rfl)) (by decide) (fun K hK => ?_)
        refine skip_ (w1 := w5.setCell ⟨wl.heap.size, 0, none⟩ (.slice A5 (hiL l0_0 (i + 1)).length c5)) (by rfl) rfl ?_ ?_
        · go_simp
        refine hK.out _ _ ?_
        clear hK K
        have HH7 := Aside0.mk (one_setCell (u := .slice A5 (hiL l0_0 (i + 1)).length c5) HH5.out)
        have HO7 := Aside0.mk (Kd.R_set HO5.out HH5.out (by decide) 0 (.slice A5 (hiL l0_0 (i + 1)).length c5))
        have HG7 := Aside0.mk (blk_far HG5.out (p := ⟨wl.heap.size, 0, none⟩) HNE.out.symm (.slice A5 (hiL l0_0 (i + 1)).length c5))
        have HB7 := Aside0.mk (below_set (j := 0) (v := .slice A5 (hiL l0_0 (i + 1)).length c5) HB5.out HGE.out)
        generalize w5.setCell ⟨wl.heap.size, 0, none⟩ (.slice A5 (hiL l0_0 (i + 1)).length c5) = w7 at HH7 HO7 HG7 HB7 ⊢
        clear hs_ hf_ HH5 HG5 HO5 HB5
        refine done_ (done_of HT_.out (by kernel_rfl)) ?_
        go_wp2
        go_roundg kn
        case measure => omega
        case rel => exact ⟨i + 1, A5, c5, by first | go_num | (rw [wrap_small (by omega) (by have := HLT.out; have := HSM.out; omega)]; go_num), ⟨by have := HK.out; omega⟩, ⟨by have := HLT.out; omega⟩, HH7, HO7, HG7, HB7⟩
      · have hlt' : decide (i < l0_0.length) = false := decide_eq_false hlt
        obtain rfl : i = l0_0.length := by have := HK2.out; omega
        clear hlt
        have HC := Aside0.mk (Kd.R_reads' HOr.out).2.2
        have HHe := HHr
        rw [hiL_length] at HC HHe
        go_wp2_with (go_at_call 60; (with_reducible refine (every_pure g l0_0 l0_1 v wr HSM.out (HV.out.below HBr.out) 67 _ #[.pointer (some ⟨wl.heap.size, 0, none⟩), .pointer (some ⟨w2.heap.size, 0, none⟩)] Try.func67 (by kernel_rfl) rfl (fun a b => addT l0_0 a b) ?sT).mono ?_); (case sT => exact fun a b ha hb W hW => add_c1 g l0_0 l0_1 v W HLg.out ((HV.out.below HBr.out).below hW) wl.heap.size w2.heap.size AH cH (Kd.C_below HC.out hW) a b ⟨by omega, by omega⟩ ⟨by omega, by omega⟩ (blk_below HHe.out hW) (blk_below HGr.out hW)); rintro e w8 ⟨rfl, hb⟩; have HB8 := Aside0.mk (below_step (below_step HB2.out HBr.out) hb); clear hb)
        go_ret
        exact ⟨rfl, by repeat (first | exact HB8.out | apply pw_below_drewN | apply below_drew1)⟩
end Go.Proofs.Ytjoadckkdophnaa.Print
end
section
namespace Go.Proofs.Ytjoadckkdophnaa.Print
open Go.RowKit Go.Proofs.YtjoadckkdophnaaW.PrintWords Go.Proofs.YtjoadckkdophnaaW.PrintLast Go.Proofs.YtjoadckkdophnaaW.PrintMore
attribute [local go_sem] max2_int min2_int max_two min_two max_three min_three max_four min_four   -- for this text's walks alone
set_option linter.unusedVariables false
set_option linter.unusedSimpArgs false
mutual
def spec_AddsUpOk.l0 : Nat → Int → List Int → Int → List (List Int) → List Int → Option (Bool)
  | 0, _, _, _, _, _ => none
  | k + 1, x3, x4, x5, x456000, x456001 => if x5 < x3 then ((spec_l8High.f k x456000 x5).bind fun t460 => (if x4.length < 17592186044416 then (spec_AddsUpOk.l0 k x3 (x4 ++ [t460]) (wrap64 (x5 + 1)) x456000 x456001) else (none))) else (spec_AddsUpOk.l1 k x3 x4 0 x456000 x456001)
def spec_AddsUpOk.l1 : Nat → Int → List Int → Int → List (List Int) → List Int → Option (Bool)
  | 0, _, _, _, _, _ => none
  | k + 1, x3, x4, x6, x456000, x456001 => if x6 < x3 then (spec_AddsUpOk.l2 k x3 x4 x6 0 x456000 x456001) else (some true)
def spec_AddsUpOk.l2 : Nat → Int → List Int → Int → Int → List (List Int) → List Int → Option (Bool)
  | 0, _, _, _, _, _, _ => none
  | k + 1, x3, x4, x6, x7, x456000, x456001 => if x7 < x6 then (if 0 ≤ x6 then (if x6 < (x4.length : Int) then (if 0 ≤ x7 then (if x7 < (x4.length : Int) then ((spec_l1Meet.f k x456000 x6 x7).bind fun t466 => (if 0 ≤ t466 then (if t466 < (x4.length : Int) then ((spec_l1Join.f k x456000 x6 x7).bind fun t468 => (if 0 ≤ t468 then (if t468 < (x4.length : Int) then (if (wrap64 ((rd x4 x6) + (rd x4 x7))) = (wrap64 ((rd x4 t466) + (rd x4 t468))) then (spec_AddsUpOk.l2 k x3 x4 x6 (wrap64 (x7 + 1)) x456000 x456001) else (some false)) else (none)) else (none))) else (none)) else (none))) else (none)) else (none)) else (none)) else (none)) else (spec_AddsUpOk.l1 k x3 x4 (wrap64 (x6 + 1)) x456000 x456001)
end
def spec_AddsUpOk.f (k : Nat) (l0_0 : List (List Int)) (l0_1 : List Int) : Option (Bool) := (spec_LogicOk.f k l0_0 l0_1).bind fun t456 => (if t456 = true then (spec_AddsUpOk.l0 k (l0_1.length : Int) (([] : List Int)) 0 l0_0 l0_1) else (some false))
set_option maxHeartbeats 8000000 in
set_option maxRecDepth 100000 in
theorem spec_AddsUpOk.calls (k : Nat) (A0_0 : Option Addr) (c0_0 : Nat) (l0_0 : List (List Int)) (A0_1 : Option Addr) (c0_1 : Nat) (l0_1 : List Int) (r : Bool) (w : World) (hr0_0 : Kd.C (Kd.slice 3 (Kd.int .i64)) w A0_0 l0_0.length l0_0) (hc0_0 : l0_0.length ≤ c0_0) (hr0_1 : Kd.C (Kd.int .i64) w A0_1 l0_1.length l0_1) (hc0_1 : l0_1.length ≤ c0_1) (h : spec_AddsUpOk.f k l0_0 l0_1 = some r) :
    Calls Try.prog 32 #[.agg #[.slice A0_0 l0_0.length c0_0, .slice A0_1 l0_1.length c0_1]] w fun e w' => e = .returned (.bool r) ∧ Below w.heap.size w w' := by
  have hu29 := Try.underlying29
  have HR0_0 := Aside0.mk hr0_0
  have HC0_0 := Aside0.mk hc0_0
  clear hr0_0 hc0_0
  have HR0_1 := Aside0.mk hr0_1
  have HC0_1 := Aside0.mk hc0_1
  clear hr0_1 hc0_1
  have HB := Aside0.mk (Below.refl w.heap.size w)
  have H : ((spec_LogicOk.f k l0_0 l0_1).bind fun t456 => (if t456 = true then (spec_AddsUpOk.l0 k (l0_1.length : Int) (([] : List Int)) 0 l0_0 l0_1) else (some false))) = some r := h
  clear h
  replace H := Option.bind_eq_some_iff.mp H
  obtain ⟨t456, A20, H⟩ := H
  replace H : (if t456 = true then (spec_AddsUpOk.l0 k (l0_1.length : Int) (([] : List Int)) 0 l0_0 l0_1) else (some false)) = some r := H
  have A2 := Aside0.mk A20
  clear A20
  by_cases c3 : t456 = true
  · subst c3
    have H1 : (spec_AddsUpOk.l0 k (l0_1.length : Int) (([] : List Int)) 0 l0_0 l0_1) = some r := by rw [if_pos rfl] at H; exact H
    clear H
    have H := H1
    clear H1
    obtain ⟨y457, hy457⟩ : ∃ y_ : List Int, y_ = (([] : List Int)) := ⟨_, rfl⟩
    replace H : (spec_AddsUpOk.l0 k (l0_1.length : Int) y457 0 l0_0 l0_1) = some r := by first | (rw [hy457]; with_reducible exact H) | (have H2_ := (Option.bind_some _ _).symm.trans H; rw [hy457]; with_reducible exact H2_) | (have H2_ := (Option.bind_some _ _).symm.trans H; with_reducible exact H2_) | with_reducible exact H | (rw [hy457]; exact H) | exact H
    have Ny457 := Aside0.mk hy457
    clear hy457
    have H' := Aside0.mk H
    clear H
    go_enter Try.func32, Try.ntmps32
    go_wp2_with (first | ((with_reducible refine gate_dst (N := 1) rfl ?_); refine box_event ?hg (N := 1) ?hd (cs := #[.slice A0_0 l0_0.length c0_0, .slice A0_1 l0_1.length c0_1]) (t := 29) ?hr ?_; (case hd => rfl); (case hg => rfl); (case hr => first | (go_simp; done) | (go_simp; rfl)); intro gb455 hg w4 hbox hb; have n0_ := Aside0.mk (below_step (by repeat (first | (with_reducible first | exact HB.out | apply below_alloc | apply pw_below_drewN | apply below_drew1) | exact HB.out)) hb); have n1_ := Aside0.mk (hbox); have n2_ := Aside0.mk ((by rw [hg]; exact (below_size (by repeat (first | (with_reducible first | exact HB.out | apply below_alloc | apply pw_below_drewN | apply below_drew1) | exact HB.out))) : w.heap.size ≤ gb455)); have n3_ := Aside0.mk ((by rw [hg]; exact (below_size (by repeat (first | (with_reducible first | exact HB.out | apply below_alloc | apply pw_below_drewN | apply below_drew1) | exact HB.out))) : w.heap.size ≤ gb455)); clear HB; have HB := n0_; have BK455 := n1_; have GW455 := n2_; have GE455 := n3_; clear n0_ n1_ n2_ n3_; clear hb hbox hg; have hcz5_0 : w4.cell? ⟨gb455, 0, none⟩ = some (.slice A0_0 l0_0.length c0_0) := (blk_cell BK455.out 0).trans rfl; have hcz5_1 : w4.cell? ⟨gb455, 1, none⟩ = some (.slice A0_1 l0_1.length c0_1) := (blk_cell BK455.out 1).trans rfl; have hfz5_0 := blk_frozen BK455.out 0; have hfz5_1 := blk_frozen BK455.out 1) | (go_at_call 59; (with_reducible refine (spec_LogicOk.calls k _ _ l0_0 _ _ l0_1 true _ ?side1 ?side2 ?side3 ?side4 A2.out).mono ?_); (case side1 => repeat (first | exact (Kd.C_below HR0_0.out HB.out) | (with_reducible refine Kd.C_alloc ?_ _) | (with_reducible refine Kd.C_drewN ?_ _) | (with_reducible refine Kd.C_drew ?_))); (case side2 => exact HC0_0.out); (case side3 => repeat (first | exact (Kd.C_below HR0_1.out HB.out) | (with_reducible refine Kd.C_alloc ?_ _) | (with_reducible refine Kd.C_drewN ?_ _) | (with_reducible refine Kd.C_drew ?_))); (case side4 => exact HC0_1.out); rintro e w6 ⟨rfl, hb⟩; have n0_ := Aside0.mk (blk_below (g := gb455) (o := .cells #[.slice A0_0 l0_0.length c0_0, .slice A0_1 l0_1.length c0_1] 29 (0, 0)) (by (with_reducible repeat (first | refine blk_drewN ?_ _ | refine blk_drew ?_ | refine blk_alloc ?_ _)); exact BK455.out) hb); have n1_ := Aside0.mk (below_step (by repeat (first | (with_reducible first | exact HB.out | apply below_alloc | apply pw_below_drewN | apply below_drew1 | refine below_set ?_ GE455.out) | exact HB.out)) hb); clear BK455; clear HB; have BK455 := n0_; have HB := n1_; clear n0_ n1_; (try clear hb); (try clear hb2); (try clear hk); (try clear hi)) | ((with_reducible refine gate_dst (N := 14) rfl ?_); refine Kd.R_lit (Kd.int .i64) _ 3 ?hg (N := 14) ?hd (xs := ([] : List Int)) (inner := []) (ok := fun _ => True) (okp := fun _ => True) ?hr ?hp (fun _ hk => hk) trivial (Below.refl _ _) (Nat.le_refl _) (by simp) ?_; (case hd => rfl); (case hg => rfl); (case hr => first | (go_simp; done) | (go_simp; rfl)); (case hp => exact (Reps.none _ _)); intro v458 w7 ho8 hb hg_ hnew_; clear hg_ hnew_; (first | rw [← Ny457.out] at ho8 | (simp only [Int.reduceToNat] at ho8; rw [← Ny457.out] at ho8)); have n0_ := Aside0.mk (Kd.R_lower ho8 (below_size (by repeat (first | (with_reducible first | exact HB.out | apply below_alloc | apply pw_below_drewN | apply below_drew1 | refine below_set ?_ GE455.out) | exact HB.out)))); have n1_ := Aside0.mk (blk_below (g := gb455) (o := .cells #[.slice A0_0 l0_0.length c0_0, .slice A0_1 l0_1.length c0_1] 29 (0, 0)) (by (with_reducible repeat (first | refine blk_drewN ?_ _ | refine blk_drew ?_ | refine blk_alloc ?_ _)); exact BK455.out) hb); have n2_ := Aside0.mk (below_step (by repeat (first | (with_reducible first | exact HB.out | apply below_alloc | apply pw_below_drewN | apply below_drew1 | refine below_set ?_ GE455.out) | exact HB.out)) hb); clear BK455; clear HB; have HO459 := n0_; have BK455 := n1_; have HB := n2_; clear n0_ n1_ n2_; clear hb ho8))
    repeat (go_quiet (first | ((with_reducible refine gate_dst (N := 1) rfl ?_); refine box_event ?hg (N := 1) ?hd (cs := #[.slice A0_0 l0_0.length c0_0, .slice A0_1 l0_1.length c0_1]) (t := 29) ?hr ?_; (case hd => rfl); (case hg => rfl); (case hr => first | (go_simp; done) | (go_simp; rfl)); intro gb455 hg w4 hbox hb; have n0_ := Aside0.mk (below_step (by repeat (first | (with_reducible first | exact HB.out | apply below_alloc | apply pw_below_drewN | apply below_drew1) | exact HB.out)) hb); have n1_ := Aside0.mk (hbox); have n2_ := Aside0.mk ((by rw [hg]; exact (below_size (by repeat (first | (with_reducible first | exact HB.out | apply below_alloc | apply pw_below_drewN | apply below_drew1) | exact HB.out))) : w.heap.size ≤ gb455)); have n3_ := Aside0.mk ((by rw [hg]; exact (below_size (by repeat (first | (with_reducible first | exact HB.out | apply below_alloc | apply pw_below_drewN | apply below_drew1) | exact HB.out))) : w.heap.size ≤ gb455)); clear HB; have HB := n0_; have BK455 := n1_; have GW455 := n2_; have GE455 := n3_; clear n0_ n1_ n2_ n3_; clear hb hbox hg; have hcz5_0 : w4.cell? ⟨gb455, 0, none⟩ = some (.slice A0_0 l0_0.length c0_0) := (blk_cell BK455.out 0).trans rfl; have hcz5_1 : w4.cell? ⟨gb455, 1, none⟩ = some (.slice A0_1 l0_1.length c0_1) := (blk_cell BK455.out 1).trans rfl; have hfz5_0 := blk_frozen BK455.out 0; have hfz5_1 := blk_frozen BK455.out 1) | (go_at_call 59; (with_reducible refine (spec_LogicOk.calls k _ _ l0_0 _ _ l0_1 true _ ?side1 ?side2 ?side3 ?side4 A2.out).mono ?_); (case side1 => repeat (first | exact (Kd.C_below HR0_0.out HB.out) | (with_reducible refine Kd.C_alloc ?_ _) | (with_reducible refine Kd.C_drewN ?_ _) | (with_reducible refine Kd.C_drew ?_))); (case side2 => exact HC0_0.out); (case side3 => repeat (first | exact (Kd.C_below HR0_1.out HB.out) | (with_reducible refine Kd.C_alloc ?_ _) | (with_reducible refine Kd.C_drewN ?_ _) | (with_reducible refine Kd.C_drew ?_))); (case side4 => exact HC0_1.out); rintro e w6 ⟨rfl, hb⟩; have n0_ := Aside0.mk (blk_below (g := gb455) (o := .cells #[.slice A0_0 l0_0.length c0_0, .slice A0_1 l0_1.length c0_1] 29 (0, 0)) (by (with_reducible repeat (first | refine blk_drewN ?_ _ | refine blk_drew ?_ | refine blk_alloc ?_ _)); exact BK455.out) hb); have n1_ := Aside0.mk (below_step (by repeat (first | (with_reducible first | exact HB.out | apply below_alloc | apply pw_below_drewN | apply below_drew1 | refine below_set ?_ GE455.out) | exact HB.out)) hb); clear BK455; clear HB; have BK455 := n0_; have HB := n1_; clear n0_ n1_; (try clear hb); (try clear hb2); (try clear hk); (try clear hi)) | ((with_reducible refine gate_dst (N := 14) rfl ?_); refine Kd.R_lit (Kd.int .i64) _ 3 ?hg (N := 14) ?hd (xs := ([] : List Int)) (inner := []) (ok := fun _ => True) (okp := fun _ => True) ?hr ?hp (fun _ hk => hk) trivial (Below.refl _ _) (Nat.le_refl _) (by simp) ?_; (case hd => rfl); (case hg => rfl); (case hr => first | (go_simp; done) | (go_simp; rfl)); (case hp => exact (Reps.none _ _)); intro v458 w7 ho8 hb hg_ hnew_; clear hg_ hnew_; (first | rw [← Ny457.out] at ho8 | (simp only [Int.reduceToNat] at ho8; rw [← Ny457.out] at ho8)); have n0_ := Aside0.mk (Kd.R_lower ho8 (below_size (by repeat (first | (with_reducible first | exact HB.out | apply below_alloc | apply pw_below_drewN | apply below_drew1 | refine below_set ?_ GE455.out) | exact HB.out)))); have n1_ := Aside0.mk (blk_below (g := gb455) (o := .cells #[.slice A0_0 l0_0.length c0_0, .slice A0_1 l0_1.length c0_1] 29 (0, 0)) (by (with_reducible repeat (first | refine blk_drewN ?_ _ | refine blk_drew ?_ | refine blk_alloc ?_ _)); exact BK455.out) hb); have n2_ := Aside0.mk (below_step (by repeat (first | (with_reducible first | exact HB.out | apply below_alloc | apply pw_below_drewN | apply below_drew1 | refine below_set ?_ GE455.out) | exact HB.out)) hb); clear BK455; clear HB; have HO459 := n0_; have BK455 := n1_; have HB := n2_; clear n0_ n1_ n2_; clear hb ho8)); try go_wp2_with (first | ((with_reducible refine gate_dst (N := 1) rfl ?_); refine box_event ?hg (N := 1) ?hd (cs := #[.slice A0_0 l0_0.length c0_0, .slice A0_1 l0_1.length c0_1]) (t := 29) ?hr ?_; (case hd => rfl); (case hg => rfl); (case hr => first | (go_simp; done) | (go_simp; rfl)); intro gb455 hg w4 hbox hb; have n0_ := Aside0.mk (below_step (by repeat (first | (with_reducible first | exact HB.out | apply below_alloc | apply pw_below_drewN | apply below_drew1) | exact HB.out)) hb); have n1_ := Aside0.mk (hbox); have n2_ := Aside0.mk ((by rw [hg]; exact (below_size (by repeat (first | (with_reducible first | exact HB.out | apply below_alloc | apply pw_below_drewN | apply below_drew1) | exact HB.out))) : w.heap.size ≤ gb455)); have n3_ := Aside0.mk ((by rw [hg]; exact (below_size (by repeat (first | (with_reducible first | exact HB.out | apply below_alloc | apply pw_below_drewN | apply below_drew1) | exact HB.out))) : w.heap.size ≤ gb455)); clear HB; have HB := n0_; have BK455 := n1_; have GW455 := n2_; have GE455 := n3_; clear n0_ n1_ n2_ n3_; clear hb hbox hg; have hcz5_0 : w4.cell? ⟨gb455, 0, none⟩ = some (.slice A0_0 l0_0.length c0_0) := (blk_cell BK455.out 0).trans rfl; have hcz5_1 : w4.cell? ⟨gb455, 1, none⟩ = some (.slice A0_1 l0_1.length c0_1) := (blk_cell BK455.out 1).trans rfl; have hfz5_0 := blk_frozen BK455.out 0; have hfz5_1 := blk_frozen BK455.out 1) | (go_at_call 59; (with_reducible refine (spec_LogicOk.calls k _ _ l0_0 _ _ l0_1 true _ ?side1 ?side2 ?side3 ?side4 A2.out).mono ?_); (case side1 => repeat (first | exact (Kd.C_below HR0_0.out HB.out) | (with_reducible refine Kd.C_alloc ?_ _) | (with_reducible refine Kd.C_drewN ?_ _) | (with_reducible refine Kd.C_drew ?_))); (case side2 => exact HC0_0.out); (case side3 => repeat (first | exact (Kd.C_below HR0_1.out HB.out) | (with_reducible refine Kd.C_alloc ?_ _) | (with_reducible refine Kd.C_drewN ?_ _) | (with_reducible refine Kd.C_drew ?_))); (case side4 => exact HC0_1.out); rintro e w6 ⟨rfl, hb⟩; have n0_ := Aside0.mk (blk_below (g := gb455) (o := .cells #[.slice A0_0 l0_0.length c0_0, .slice A0_1 l0_1.length c0_1] 29 (0, 0)) (by (with_reducible repeat (first | refine blk_drewN ?_ _ | refine blk_drew ?_ | refine blk_alloc ?_ _)); exact BK455.out) hb); have n1_ := Aside0.mk (below_step (by repeat (first | (with_reducible first | exact HB.out | apply below_alloc | apply pw_below_drewN | apply below_drew1 | refine below_set ?_ GE455.out) | exact HB.out)) hb); clear BK455; clear HB; have BK455 := n0_; have HB := n1_; clear n0_ n1_; (try clear hb); (try clear hb2); (try clear hk); (try clear hi)) | ((with_reducible refine gate_dst (N := 14) rfl ?_); refine Kd.R_lit (Kd.int .i64) _ 3 ?hg (N := 14) ?hd (xs := ([] : List Int)) (inner := []) (ok := fun _ => True) (okp := fun _ => True) ?hr ?hp (fun _ hk => hk) trivial (Below.refl _ _) (Nat.le_refl _) (by simp) ?_; (case hd => rfl); (case hg => rfl); (case hr => first | (go_simp; done) | (go_simp; rfl)); (case hp => exact (Reps.none _ _)); intro v458 w7 ho8 hb hg_ hnew_; clear hg_ hnew_; (first | rw [← Ny457.out] at ho8 | (simp only [Int.reduceToNat] at ho8; rw [← Ny457.out] at ho8)); have n0_ := Aside0.mk (Kd.R_lower ho8 (below_size (by repeat (first | (with_reducible first | exact HB.out | apply below_alloc | apply pw_below_drewN | apply below_drew1 | refine below_set ?_ GE455.out) | exact HB.out)))); have n1_ := Aside0.mk (blk_below (g := gb455) (o := .cells #[.slice A0_0 l0_0.length c0_0, .slice A0_1 l0_1.length c0_1] 29 (0, 0)) (by (with_reducible repeat (first | refine blk_drewN ?_ _ | refine blk_drew ?_ | refine blk_alloc ?_ _)); exact BK455.out) hb); have n2_ := Aside0.mk (below_step (by repeat (first | (with_reducible first | exact HB.out | apply below_alloc | apply pw_below_drewN | apply below_drew1 | refine below_set ?_ GE455.out) | exact HB.out)) hb); clear BK455; clear HB; have HO459 := n0_; have BK455 := n1_; have HB := n2_; clear n0_ n1_ n2_; clear hb ho8)))
    go_loopg [4, 5] k (fun kq v4 v5 w' => ∃ (x4_1 : List Int) (x5_1 : Int), v5 = .int .i64 x5_1 ∧ Aside0 (spec_AddsUpOk.l0 kq (l0_1.length : Int) x4_1 x5_1 l0_0 l0_1 = some r) ∧ Aside0 (kq ≤ k) ∧ Aside0 (Kd.R (Kd.int .i64) 3 w' w.heap.size (fun _ => True) v4 x4_1) ∧ Aside0 (w'.heap[gb455]? = some (.cells #[(.slice A0_0 l0_0.length c0_0), (.slice A0_1 l0_1.length c0_1)] 29 (0, 0))) ∧ Aside0 (Below w.heap.size w w'))
    case atStart => exact ⟨(y457), (0), (by first | rfl | (simp; done) | (simp [*]; done)), H', ⟨Nat.le_refl _⟩, ⟨by (with_reducible repeat (first | apply Kd.R_alloc | apply Kd.R_drewN | apply Kd.R_drew)); exact HO459.out⟩, ⟨by (with_reducible repeat (first | refine blk_drewN ?_ _ | refine blk_drew ?_ | refine blk_alloc ?_ _)); exact BK455.out⟩, ⟨by repeat (first | (with_reducible first | exact HB.out | apply below_alloc | apply pw_below_drewN | apply below_drew1 | refine below_set ?_ GE455.out) | exact HB.out)⟩⟩
    case round =>
      clear H'
      try clear p2
      try clear c3
      try clear hcz5_0
      try clear hcz5_1
      try clear hfz5_0
      try clear hfz5_1
      obtain ⟨x4_1, x5_1, rfl, HA, HK1, HO_4, BK455, HB⟩ := hrel
      cases gk with
      | zero => exact absurd HA.out (by simp [spec_AddsUpOk.l0])
      | succ k1 =>
        have H := HA.out
        clear HA
        simp only [spec_AddsUpOk.l0] at H
        by_cases c9 : x5_1 < (l0_1.length : Int)
        · rw [if_pos c9] at H
          have c9b0 : decide (x5_1 < (l0_1.length : Int)) = true := decide_eq_true c9
          clear c9
          replace H := Option.bind_eq_some_iff.mp H
          obtain ⟨t460, A100, H⟩ := H
          replace H : (if x4_1.length < 17592186044416 then (spec_AddsUpOk.l0 k1 (l0_1.length : Int) (x4_1 ++ [t460]) (wrap64 (x5_1 + 1)) l0_0 l0_1) else (none)) = some r := H
          have A10 := Aside0.mk A100
          clear A100
          by_cases c11 : x4_1.length < 17592186044416
          · rw [if_pos c11] at H
            have LMc11 := Aside0.mk c11
            clear c11
            obtain ⟨y461, hy461⟩ : ∃ y_ : List Int, y_ = (x4_1 ++ [t460]) := ⟨_, rfl⟩
            replace H : (spec_AddsUpOk.l0 k1 (l0_1.length : Int) y461 (wrap64 (x5_1 + 1)) l0_0 l0_1) = some r := by first | (rw [hy461]; with_reducible exact H) | (have H2_ := (Option.bind_some _ _).symm.trans H; rw [hy461]; with_reducible exact H2_) | (have H2_ := (Option.bind_some _ _).symm.trans H; with_reducible exact H2_) | with_reducible exact H | (rw [hy461]; exact H) | exact H
            have Ny461 := Aside0.mk hy461
            clear hy461
            have H' := Aside0.mk H
            clear H
            have hcz12_0 : wr.cell? ⟨gb455, 0, none⟩ = some (.slice A0_0 l0_0.length c0_0) := (blk_cell BK455.out 0).trans rfl
            have hcz12_1 : wr.cell? ⟨gb455, 1, none⟩ = some (.slice A0_1 l0_1.length c0_1) := (blk_cell BK455.out 1).trans rfl
            have hfz12_0 := blk_frozen BK455.out 0
            have hfz12_1 := blk_frozen BK455.out 1
            go_wp2_with (first | (go_at_call 65; (with_reducible refine (spec_l8High.calls k1 _ _ l0_0 x5_1 t460 _ ?side1 ?side2 A10.out).mono ?_); (case side1 => repeat (first | exact (Kd.C_below HR0_0.out HB.out) | (with_reducible refine Kd.C_alloc ?_ _) | (with_reducible refine Kd.C_drewN ?_ _) | (with_reducible refine Kd.C_drew ?_))); (case side2 => exact HC0_0.out); rintro e w13 ⟨rfl, hb⟩; have n0_ := Aside0.mk (Kd.R_below (by (with_reducible repeat (first | apply Kd.R_alloc | apply Kd.R_drewN | apply Kd.R_drew)); exact HO_4.out) hb); have n1_ := Aside0.mk (blk_below (g := gb455) (o := .cells #[.slice A0_0 l0_0.length c0_0, .slice A0_1 l0_1.length c0_1] 29 (0, 0)) (by (with_reducible repeat (first | refine blk_drewN ?_ _ | refine blk_drew ?_ | refine blk_alloc ?_ _)); exact BK455.out) hb); have n2_ := Aside0.mk (below_step (by repeat (first | (with_reducible first | exact HB.out | apply below_alloc | apply pw_below_drewN | apply below_drew1 | refine below_set ?_ GE455.out) | exact HB.out)) hb); clear HO_4; clear BK455; clear HB; have HO_4 := n0_; have BK455 := n1_; have HB := n2_; clear n0_ n1_ n2_; (try clear hb); (try clear hb2); (try clear hk); (try clear hi)) | ((with_reducible refine gate_builtin (b := .append) (xs := #[.tmp 20, .tmp 25]) rfl ?_); at_builtin; refine Kd.R_append (Kd.int .i64) (w0 := w) w.heap.size rfl (.tmp 20) (.tmp 25) 24 3 (.int .i64 0) 8 rfl Try.underlying24 info3 rfl (by decide) (by omega) u4 x4_1 t460 [.int .i64 t460] (fun _ => True) (fun _ => False) rfl rfl ?aP (fun _ hk => hk.elim) ?aF ?aO ?aB ?aS ?aL ?_; (case aP => exact rfl); (case aB => exact (by repeat (first | (with_reducible first | exact HB.out | apply below_alloc | apply pw_below_drewN | apply below_drew1 | refine below_set ?_ GE455.out) | exact HB.out))); (case aF => exact (fun _ _ => trivial)); (case aO => exact (by (with_reducible repeat (first | apply Kd.R_alloc | apply Kd.R_drewN | apply Kd.R_drew)); exact HO_4.out)); (case aS => exact (below_size (by repeat (first | (with_reducible first | exact HB.out | apply below_alloc | apply pw_below_drewN | apply below_drew1 | refine below_set ?_ GE455.out) | exact HB.out)))); (case aL => have := LMc11.out; omega); intro v462 w14 ho hb hg hat; rw [← Ny461.out] at ho; have n0_ := Aside0.mk (blk_grown (g := gb455) (o := .cells #[.slice A0_0 l0_0.length c0_0, .slice A0_1 l0_1.length c0_1] 29 (0, 0)) (by (with_reducible repeat (first | refine blk_drewN ?_ _ | refine blk_drew ?_ | refine blk_alloc ?_ _)); exact BK455.out) hg (Kd.R_ne HO_4.out BK455.out (by decide))); have n1_ := Aside0.mk (hb); have n2_ := Aside0.mk (ho); clear BK455; clear HB; clear HO_4; have BK455 := n0_; have HB := n1_; have HO463 := n2_; clear n0_ n1_ n2_; clear ho hb hg hat))
            repeat (go_quiet (first | (go_at_call 65; (with_reducible refine (spec_l8High.calls k1 _ _ l0_0 x5_1 t460 _ ?side1 ?side2 A10.out).mono ?_); (case side1 => repeat (first | exact (Kd.C_below HR0_0.out HB.out) | (with_reducible refine Kd.C_alloc ?_ _) | (with_reducible refine Kd.C_drewN ?_ _) | (with_reducible refine Kd.C_drew ?_))); (case side2 => exact HC0_0.out); rintro e w13 ⟨rfl, hb⟩; have n0_ := Aside0.mk (Kd.R_below (by (with_reducible repeat (first | apply Kd.R_alloc | apply Kd.R_drewN | apply Kd.R_drew)); exact HO_4.out) hb); have n1_ := Aside0.mk (blk_below (g := gb455) (o := .cells #[.slice A0_0 l0_0.length c0_0, .slice A0_1 l0_1.length c0_1] 29 (0, 0)) (by (with_reducible repeat (first | refine blk_drewN ?_ _ | refine blk_drew ?_ | refine blk_alloc ?_ _)); exact BK455.out) hb); have n2_ := Aside0.mk (below_step (by repeat (first | (with_reducible first | exact HB.out | apply below_alloc | apply pw_below_drewN | apply below_drew1 | refine below_set ?_ GE455.out) | exact HB.out)) hb); clear HO_4; clear BK455; clear HB; have HO_4 := n0_; have BK455 := n1_; have HB := n2_; clear n0_ n1_ n2_; (try clear hb); (try clear hb2); (try clear hk); (try clear hi)) | ((with_reducible refine gate_builtin (b := .append) (xs := #[.tmp 20, .tmp 25]) rfl ?_); at_builtin; refine Kd.R_append (Kd.int .i64) (w0 := w) w.heap.size rfl (.tmp 20) (.tmp 25) 24 3 (.int .i64 0) 8 rfl Try.underlying24 info3 rfl (by decide) (by omega) u4 x4_1 t460 [.int .i64 t460] (fun _ => True) (fun _ => False) rfl rfl ?aP (fun _ hk => hk.elim) ?aF ?aO ?aB ?aS ?aL ?_; (case aP => exact rfl); (case aB => exact (by repeat (first | (with_reducible first | exact HB.out | apply below_alloc | apply pw_below_drewN | apply below_drew1 | refine below_set ?_ GE455.out) | exact HB.out))); (case aF => exact (fun _ _ => trivial)); (case aO => exact (by (with_reducible repeat (first | apply Kd.R_alloc | apply Kd.R_drewN | apply Kd.R_drew)); exact HO_4.out)); (case aS => exact (below_size (by repeat (first | (with_reducible first | exact HB.out | apply below_alloc | apply pw_below_drewN | apply below_drew1 | refine below_set ?_ GE455.out) | exact HB.out)))); (case aL => have := LMc11.out; omega); intro v462 w14 ho hb hg hat; rw [← Ny461.out] at ho; have n0_ := Aside0.mk (blk_grown (g := gb455) (o := .cells #[.slice A0_0 l0_0.length c0_0, .slice A0_1 l0_1.length c0_1] 29 (0, 0)) (by (with_reducible repeat (first | refine blk_drewN ?_ _ | refine blk_drew ?_ | refine blk_alloc ?_ _)); exact BK455.out) hg (Kd.R_ne HO_4.out BK455.out (by decide))); have n1_ := Aside0.mk (hb); have n2_ := Aside0.mk (ho); clear BK455; clear HB; clear HO_4; have BK455 := n0_; have HB := n1_; have HO463 := n2_; clear n0_ n1_ n2_; clear ho hb hg hat)); try go_wp2_with (first | (go_at_call 65; (with_reducible refine (spec_l8High.calls k1 _ _ l0_0 x5_1 t460 _ ?side1 ?side2 A10.out).mono ?_); (case side1 => repeat (first | exact (Kd.C_below HR0_0.out HB.out) | (with_reducible refine Kd.C_alloc ?_ _) | (with_reducible refine Kd.C_drewN ?_ _) | (with_reducible refine Kd.C_drew ?_))); (case side2 => exact HC0_0.out); rintro e w13 ⟨rfl, hb⟩; have n0_ := Aside0.mk (Kd.R_below (by (with_reducible repeat (first | apply Kd.R_alloc | apply Kd.R_drewN | apply Kd.R_drew)); exact HO_4.out) hb); have n1_ := Aside0.mk (blk_below (g := gb455) (o := .cells #[.slice A0_0 l0_0.length c0_0, .slice A0_1 l0_1.length c0_1] 29 (0, 0)) (by (with_reducible repeat (first | refine blk_drewN ?_ _ | refine blk_drew ?_ | refine blk_alloc ?_ _)); exact BK455.out) hb); have n2_ := Aside0.mk (below_step (by repeat (first | (with_reducible first | exact HB.out | apply below_alloc | apply pw_below_drewN | apply below_drew1 | refine below_set ?_ GE455.out) | exact HB.out)) hb); clear HO_4; clear BK455; clear HB; have HO_4 := n0_; have BK455 := n1_; have HB := n2_; clear n0_ n1_ n2_; (try clear hb); (try clear hb2); (try clear hk); (try clear hi)) | ((with_reducible refine gate_builtin (b := .append) (xs := #[.tmp 20, .tmp 25]) rfl ?_); at_builtin; refine Kd.R_append (Kd.int .i64) (w0 := w) w.heap.size rfl (.tmp 20) (.tmp 25) 24 3 (.int .i64 0) 8 rfl Try.underlying24 info3 rfl (by decide) (by omega) u4 x4_1 t460 [.int .i64 t460] (fun _ => True) (fun _ => False) rfl rfl ?aP (fun _ hk => hk.elim) ?aF ?aO ?aB ?aS ?aL ?_; (case aP => exact rfl); (case aB => exact (by repeat (first | (with_reducible first | exact HB.out | apply below_alloc | apply pw_below_drewN | apply below_drew1 | refine below_set ?_ GE455.out) | exact HB.out))); (case aF => exact (fun _ _ => trivial)); (case aO => exact (by (with_reducible repeat (first | apply Kd.R_alloc | apply Kd.R_drewN | apply Kd.R_drew)); exact HO_4.out)); (case aS => exact (below_size (by repeat (first | (with_reducible first | exact HB.out | apply below_alloc | apply pw_below_drewN | apply below_drew1 | refine below_set ?_ GE455.out) | exact HB.out)))); (case aL => have := LMc11.out; omega); intro v462 w14 ho hb hg hat; rw [← Ny461.out] at ho; have n0_ := Aside0.mk (blk_grown (g := gb455) (o := .cells #[.slice A0_0 l0_0.length c0_0, .slice A0_1 l0_1.length c0_1] 29 (0, 0)) (by (with_reducible repeat (first | refine blk_drewN ?_ _ | refine blk_drew ?_ | refine blk_alloc ?_ _)); exact BK455.out) hg (Kd.R_ne HO_4.out BK455.out (by decide))); have n1_ := Aside0.mk (hb); have n2_ := Aside0.mk (ho); clear BK455; clear HB; clear HO_4; have BK455 := n0_; have HB := n1_; have HO463 := n2_; clear n0_ n1_ n2_; clear ho hb hg hat)))
            go_roundg k1
            case measure => have := HK1.out; omega
            case rel => exact ⟨(y461), (wrap64 (x5_1 + 1)), (by first | rfl | (simp; done) | (simp [*]; done)), H', ⟨by have := HK1.out; omega⟩, ⟨by (with_reducible repeat (first | apply Kd.R_alloc | apply Kd.R_drewN | apply Kd.R_drew)); exact HO463.out⟩, ⟨by (with_reducible repeat (first | refine blk_drewN ?_ _ | refine blk_drew ?_ | refine blk_alloc ?_ _)); exact BK455.out⟩, ⟨by repeat (first | (with_reducible first | exact HB.out | apply below_alloc | apply pw_below_drewN | apply below_drew1 | refine below_set ?_ GE455.out) | exact HB.out)⟩⟩
          · rw [if_neg c11] at H
            exact absurd H (by simp)
        · rw [if_neg c9] at H
          have c9b0 : decide (x5_1 < (l0_1.length : Int)) = false := decide_eq_false c9
          clear c9
          have H' := Aside0.mk H
          clear H
          go_wp2
          repeat (go_quiet (fail); try go_wp2)
          go_loopg [6] k1 (fun kq v6 w' => ∃ (x6_2 : Int), v6 = .int .i64 x6_2 ∧ Aside0 (spec_AddsUpOk.l1 kq (l0_1.length : Int) x4_1 x6_2 l0_0 l0_1 = some r) ∧ Aside0 (kq ≤ k1) ∧ Aside0 (Kd.R (Kd.int .i64) 3 w' w.heap.size (fun _ => True) u4 x4_1) ∧ Aside0 (w'.heap[gb455]? = some (.cells #[(.slice A0_0 l0_0.length c0_0), (.slice A0_1 l0_1.length c0_1)] 29 (0, 0))) ∧ Aside0 (Below w.heap.size w w'))
          case atStart => exact ⟨(0), (by first | rfl | (simp; done) | (simp [*]; done)), H', ⟨Nat.le_refl _⟩, ⟨by (with_reducible repeat (first | apply Kd.R_alloc | apply Kd.R_drewN | apply Kd.R_drew)); exact HO_4.out⟩, ⟨by (with_reducible repeat (first | refine blk_drewN ?_ _ | refine blk_drew ?_ | refine blk_alloc ?_ _)); exact BK455.out⟩, ⟨by repeat (first | (with_reducible first | exact HB.out | apply below_alloc | apply pw_below_drewN | apply below_drew1 | refine below_set ?_ GE455.out) | exact HB.out)⟩⟩
          case round =>
            clear H'
            try clear c1
            try clear p2
            try clear c3
            try clear p6
            try clear c9
            try clear c9b0
            try clear c11
            try clear hcz12_0
            try clear hcz12_1
            try clear hcz5_0
            try clear hcz5_1
            try clear hfz12_0
            try clear hfz12_1
            try clear hfz5_0
            try clear hfz5_1
            try clear p2
            obtain ⟨x6_2, rfl, HA, HK2, HO_4, BK455, HB⟩ := hrel
            cases gk with
            | zero => exact absurd HA.out (by simp [spec_AddsUpOk.l1])
            | succ k2 =>
              have H := HA.out
              clear HA
              simp only [spec_AddsUpOk.l1] at H
              by_cases c15 : x6_2 < (l0_1.length : Int)
              · rw [if_pos c15] at H
                have c15b0 : decide (x6_2 < (l0_1.length : Int)) = true := decide_eq_true c15
                clear c15
                have H' := Aside0.mk H
                clear H
                go_wp2
                repeat (go_quiet (fail); try go_wp2)
                go_loopg [7] k2 (fun kq v7 w' => ∃ (x7_3 : Int), v7 = .int .i64 x7_3 ∧ Aside0 (spec_AddsUpOk.l2 kq (l0_1.length : Int) x4_1 x6_2 x7_3 l0_0 l0_1 = some r) ∧ Aside0 (kq ≤ k2) ∧ Aside0 (Kd.R (Kd.int .i64) 3 w' w.heap.size (fun _ => True) u4 x4_1) ∧ Aside0 (w'.heap[gb455]? = some (.cells #[(.slice A0_0 l0_0.length c0_0), (.slice A0_1 l0_1.length c0_1)] 29 (0, 0))) ∧ Aside0 (Below w.heap.size w w'))
                case atStart => exact ⟨(0), (by first | rfl | (simp; done) | (simp [*]; done)), H', ⟨Nat.le_refl _⟩, ⟨by (with_reducible repeat (first | apply Kd.R_alloc | apply Kd.R_drewN | apply Kd.R_drew)); exact HO_4.out⟩, ⟨by (with_reducible repeat (first | refine blk_drewN ?_ _ | refine blk_drew ?_ | refine blk_alloc ?_ _)); exact BK455.out⟩, ⟨by repeat (first | (with_reducible first | exact HB.out | apply below_alloc | apply pw_below_drewN | apply below_drew1 | refine below_set ?_ GE455.out) | exact HB.out)⟩⟩
                case round =>
                  clear H'
                  try clear c1
                  try clear p2
                  try clear c3
                  try clear p6
                  try clear c9
                  try clear c9b0
                  try clear c11
                  try clear c15
                  try clear c15b0
                  try clear hcz12_0
                  try clear hcz12_1
                  try clear hcz5_0
                  try clear hcz5_1
                  try clear hfz12_0
                  try clear hfz12_1
                  try clear hfz5_0
                  try clear hfz5_1
                  try clear p2
                  try clear p6
                  obtain ⟨x7_3, rfl, HA, HK3, HO_4, BK455, HB⟩ := hrel
                  cases gk with
                  | zero => exact absurd HA.out (by simp [spec_AddsUpOk.l2])
                  | succ k3 =>
                    have H := HA.out
                    clear HA
                    simp only [spec_AddsUpOk.l2] at H
                    by_cases c16 : x7_3 < x6_2
                    · rw [if_pos c16] at H
                      have c16b0 : decide (x7_3 < x6_2) = true := decide_eq_true c16
                      clear c16
                      by_cases c17 : 0 ≤ x6_2
                      · rw [if_pos c17] at H
                        have c17b0 : decide (0 ≤ x6_2) = true := decide_eq_true c17
                        clear c17
                        by_cases c18 : x6_2 < (x4_1.length : Int)
                        · rw [if_pos c18] at H
                          have c18b0 : decide (x6_2 < (x4_1.length : Int)) = true := decide_eq_true c18
                          clear c18
                          by_cases c19 : 0 ≤ x7_3
                          · rw [if_pos c19] at H
                            have c19b0 : decide (0 ≤ x7_3) = true := decide_eq_true c19
                            clear c19
                            by_cases c20 : x7_3 < (x4_1.length : Int)
                            · rw [if_pos c20] at H
                              have c20b0 : decide (x7_3 < (x4_1.length : Int)) = true := decide_eq_true c20
                              clear c20
                              replace H := Option.bind_eq_some_iff.mp H
                              obtain ⟨t466, A210, H⟩ := H
                              replace H : (if 0 ≤ t466 then (if t466 < (x4_1.length : Int) then ((spec_l1Join.f k3 l0_0 x6_2 x7_3).bind fun t468 => (if 0 ≤ t468 then (if t468 < (x4_1.length : Int) then (if (wrap64 ((rd x4_1 x6_2) + (rd x4_1 x7_3))) = (wrap64 ((rd x4_1 t466) + (rd x4_1 t468))) then (spec_AddsUpOk.l2 k3 (l0_1.length : Int) x4_1 x6_2 (wrap64 (x7_3 + 1)) l0_0 l0_1) else (some false)) else (none)) else (none))) else (none)) else (none)) = some r := H
                              have A21 := Aside0.mk A210
                              clear A210
                              by_cases c22 : 0 ≤ t466
                              · rw [if_pos c22] at H
                                have c22b0 : decide (0 ≤ t466) = true := decide_eq_true c22
                                clear c22
                                by_cases c23 : t466 < (x4_1.length : Int)
                                · rw [if_pos c23] at H
                                  have c23b0 : decide (t466 < (x4_1.length : Int)) = true := decide_eq_true c23
                                  clear c23
                                  replace H := Option.bind_eq_some_iff.mp H
                                  obtain ⟨t468, A240, H⟩ := H
                                  replace H : (if 0 ≤ t468 then (if t468 < (x4_1.length : Int) then (if (wrap64 ((rd x4_1 x6_2) + (rd x4_1 x7_3))) = (wrap64 ((rd x4_1 t466) + (rd x4_1 t468))) then (spec_AddsUpOk.l2 k3 (l0_1.length : Int) x4_1 x6_2 (wrap64 (x7_3 + 1)) l0_0 l0_1) else (some false)) else (none)) else (none)) = some r := H
                                  have A24 := Aside0.mk A240
                                  clear A240
                                  by_cases c25 : 0 ≤ t468
                                  · rw [if_pos c25] at H
                                    have c25b0 : decide (0 ≤ t468) = true := decide_eq_true c25
                                    clear c25
                                    by_cases c26 : t468 < (x4_1.length : Int)
                                    · rw [if_pos c26] at H
                                      have c26b0 : decide (t468 < (x4_1.length : Int)) = true := decide_eq_true c26
                                      clear c26
                                      by_cases c27 : (wrap64 ((rd x4_1 x6_2) + (rd x4_1 x7_3))) = (wrap64 ((rd x4_1 t466) + (rd x4_1 t468)))
                                      · rw [if_pos c27] at H
                                        have c27b0 : ((wrap64 ((rd x4_1 x6_2) + (rd x4_1 x7_3))) == (wrap64 ((rd x4_1 t466) + (rd x4_1 t468)))) = true := beq_iff_eq.mpr c27
                                        have c27w0 : ((IntKind.i64.wrap ((rd x4_1 x6_2) + (rd x4_1 x7_3))) == (IntKind.i64.wrap ((rd x4_1 t466) + (rd x4_1 t468)))) = true := by simp only [i64_w]; exact c27b0
                                        have c27b1 : ((wrap64 ((rd x4_1 x6_2) + (rd x4_1 x7_3))) != (wrap64 ((rd x4_1 t466) + (rd x4_1 t468)))) = false := bne_eq_false_iff_eq.mpr c27
                                        have c27w1 : ((IntKind.i64.wrap ((rd x4_1 x6_2) + (rd x4_1 x7_3))) != (IntKind.i64.wrap ((rd x4_1 t466) + (rd x4_1 t468)))) = false := by simp only [i64_w]; exact c27b1
                                        clear c27
                                        have H' := Aside0.mk H
                                        clear H
                                        obtain ⟨Ao28, co28, eo28⟩ := Kd.R_slice HO_4.out
                                        subst eo28
                                        have p464 : 0 ≤ (x6_2 : Int) := of_decide_eq_true (by first | (with_reducible assumption) | assumption)
                                        have q464 : x6_2 < (x4_1.length : Int) := of_decide_eq_true (by first | (with_reducible assumption) | assumption)
                                        obtain ⟨ad464, e464, hx464_0⟩ := Kd.at_int (Kd.R_reads' HO_4.out).2.2 x6_2 p464 q464
                                        cases e464
                                        replace p464 := eq_true p464
                                        replace q464 := eq_true q464
                                        have p465 : 0 ≤ (x7_3 : Int) := of_decide_eq_true (by first | (with_reducible assumption) | assumption)
                                        have q465 : x7_3 < (x4_1.length : Int) := of_decide_eq_true (by first | (with_reducible assumption) | assumption)
                                        obtain ⟨ad465, e465, hx465_0⟩ := Kd.at_int (Kd.R_reads' HO_4.out).2.2 x7_3 p465 q465
                                        obtain rfl : ad464 = ad465 := (by injection e465)
                                        replace p465 := eq_true p465
                                        replace q465 := eq_true q465
                                        have hcz29_0 : wr.cell? ⟨gb455, 0, none⟩ = some (.slice A0_0 l0_0.length c0_0) := (blk_cell BK455.out 0).trans rfl
                                        have hcz29_1 : wr.cell? ⟨gb455, 1, none⟩ = some (.slice A0_1 l0_1.length c0_1) := (blk_cell BK455.out 1).trans rfl
                                        have hfz29_0 := blk_frozen BK455.out 0
                                        have hfz29_1 := blk_frozen BK455.out 1
                                        go_wp2_with (first | (go_at_call 52; (with_reducible refine (spec_l1Meet.calls k3 _ _ l0_0 x6_2 x7_3 t466 _ ?side1 ?side2 A21.out).mono ?_); (case side1 => repeat (first | exact (Kd.C_below HR0_0.out HB.out) | (with_reducible refine Kd.C_alloc ?_ _) | (with_reducible refine Kd.C_drewN ?_ _) | (with_reducible refine Kd.C_drew ?_))); (case side2 => exact HC0_0.out); rintro e w' ⟨rfl, ⟨nd, rfl⟩⟩; (try first | exact ⟨rfl, _, World.drewN_drewN _ _ _⟩ | exact ⟨rfl, _, Eq.trans (World.drewN_drewN _ _ _) (congrArg (World.drewN _) (Nat.add_assoc _ _ _))⟩); have p467 : 0 ≤ (t466 : Int) := of_decide_eq_true (by first | (with_reducible assumption) | assumption); have q467 : t466 < (x4_1.length : Int) := of_decide_eq_true (by first | (with_reducible assumption) | assumption); obtain ⟨ad467, e467, hx467_0⟩ := Kd.at_int (Kd.R_reads' HO_4.out).2.2 t466 p467 q467; obtain rfl : ad464 = ad467 := (by injection e467); replace p467 := eq_true p467; replace q467 := eq_true q467) | (go_at_call 51; (with_reducible refine (spec_l1Join.calls k3 _ _ l0_0 x6_2 x7_3 t468 _ ?side1 ?side2 A24.out).mono ?_); (case side1 => repeat (first | exact (Kd.C_below HR0_0.out (by repeat (first | (with_reducible first | exact HB.out | apply below_alloc | apply pw_below_drewN | apply below_drew1 | refine below_set ?_ GE455.out) | exact HB.out))) | (with_reducible refine Kd.C_alloc ?_ _) | (with_reducible refine Kd.C_drewN ?_ _) | (with_reducible refine Kd.C_drew ?_))); (case side2 => exact HC0_0.out); rintro e w' ⟨rfl, ⟨nd, rfl⟩⟩; (try first | exact ⟨rfl, _, World.drewN_drewN _ _ _⟩ | exact ⟨rfl, _, Eq.trans (World.drewN_drewN _ _ _) (congrArg (World.drewN _) (Nat.add_assoc _ _ _))⟩); have p469 : 0 ≤ (t468 : Int) := of_decide_eq_true (by first | (with_reducible assumption) | assumption); have q469 : t468 < (x4_1.length : Int) := of_decide_eq_true (by first | (with_reducible assumption) | assumption); obtain ⟨ad469, e469, hx469_0⟩ := Kd.at_int (Kd.R_reads' HO_4.out).2.2 t468 p469 q469; obtain rfl : ad464 = ad469 := (by injection e469); replace p469 := eq_true p469; replace q469 := eq_true q469))
                                        repeat (go_quiet (first | (go_at_call 52; (with_reducible refine (spec_l1Meet.calls k3 _ _ l0_0 x6_2 x7_3 t466 _ ?side1 ?side2 A21.out).mono ?_); (case side1 => repeat (first | exact (Kd.C_below HR0_0.out HB.out) | (with_reducible refine Kd.C_alloc ?_ _) | (with_reducible refine Kd.C_drewN ?_ _) | (with_reducible refine Kd.C_drew ?_))); (case side2 => exact HC0_0.out); rintro e w' ⟨rfl, ⟨nd, rfl⟩⟩; (try first | exact ⟨rfl, _, World.drewN_drewN _ _ _⟩ | exact ⟨rfl, _, Eq.trans (World.drewN_drewN _ _ _) (congrArg (World.drewN _) (Nat.add_assoc _ _ _))⟩); have p467 : 0 ≤ (t466 : Int) := of_decide_eq_true (by first | (with_reducible assumption) | assumption); have q467 : t466 < (x4_1.length : Int) := of_decide_eq_true (by first | (with_reducible assumption) | assumption); obtain ⟨ad467, e467, hx467_0⟩ := Kd.at_int (Kd.R_reads' HO_4.out).2.2 t466 p467 q467; obtain rfl : ad464 = ad467 := (by injection e467); replace p467 := eq_true p467; replace q467 := eq_true q467) | (go_at_call 51; (with_reducible refine (spec_l1Join.calls k3 _ _ l0_0 x6_2 x7_3 t468 _ ?side1 ?side2 A24.out).mono ?_); (case side1 => repeat (first | exact (Kd.C_below HR0_0.out (by repeat (first | (with_reducible first | exact HB.out | apply below_alloc | apply pw_below_drewN | apply below_drew1 | refine below_set ?_ GE455.out) | exact HB.out))) | (with_reducible refine Kd.C_alloc ?_ _) | (with_reducible refine Kd.C_drewN ?_ _) | (with_reducible refine Kd.C_drew ?_))); (case side2 => exact HC0_0.out); rintro e w' ⟨rfl, ⟨nd, rfl⟩⟩; (try first | exact ⟨rfl, _, World.drewN_drewN _ _ _⟩ | exact ⟨rfl, _, Eq.trans (World.drewN_drewN _ _ _) (congrArg (World.drewN _) (Nat.add_assoc _ _ _))⟩); have p469 : 0 ≤ (t468 : Int) := of_decide_eq_true (by first | (with_reducible assumption) | assumption); have q469 : t468 < (x4_1.length : Int) := of_decide_eq_true (by first | (with_reducible assumption) | assumption); obtain ⟨ad469, e469, hx469_0⟩ := Kd.at_int (Kd.R_reads' HO_4.out).2.2 t468 p469 q469; obtain rfl : ad464 = ad469 := (by injection e469); replace p469 := eq_true p469; replace q469 := eq_true q469)); try go_wp2_with (first | (go_at_call 52; (with_reducible refine (spec_l1Meet.calls k3 _ _ l0_0 x6_2 x7_3 t466 _ ?side1 ?side2 A21.out).mono ?_); (case side1 => repeat (first | exact (Kd.C_below HR0_0.out HB.out) | (with_reducible refine Kd.C_alloc ?_ _) | (with_reducible refine Kd.C_drewN ?_ _) | (with_reducible refine Kd.C_drew ?_))); (case side2 => exact HC0_0.out); rintro e w' ⟨rfl, ⟨nd, rfl⟩⟩; (try first | exact ⟨rfl, _, World.drewN_drewN _ _ _⟩ | exact ⟨rfl, _, Eq.trans (World.drewN_drewN _ _ _) (congrArg (World.drewN _) (Nat.add_assoc _ _ _))⟩); have p467 : 0 ≤ (t466 : Int) := of_decide_eq_true (by first | (with_reducible assumption) | assumption); have q467 : t466 < (x4_1.length : Int) := of_decide_eq_true (by first | (with_reducible assumption) | assumption); obtain ⟨ad467, e467, hx467_0⟩ := Kd.at_int (Kd.R_reads' HO_4.out).2.2 t466 p467 q467; obtain rfl : ad464 = ad467 := (by injection e467); replace p467 := eq_true p467; replace q467 := eq_true q467) | (go_at_call 51; (with_reducible refine (spec_l1Join.calls k3 _ _ l0_0 x6_2 x7_3 t468 _ ?side1 ?side2 A24.out).mono ?_); (case side1 => repeat (first | exact (Kd.C_below HR0_0.out (by repeat (first | (with_reducible first | exact HB.out | apply below_alloc | apply pw_below_drewN | apply below_drew1 | refine below_set ?_ GE455.out) | exact HB.out))) | (with_reducible refine Kd.C_alloc ?_ _) | (with_reducible refine Kd.C_drewN ?_ _) | (with_reducible refine Kd.C_drew ?_))); (case side2 => exact HC0_0.out); rintro e w' ⟨rfl, ⟨nd, rfl⟩⟩; (try first | exact ⟨rfl, _, World.drewN_drewN _ _ _⟩ | exact ⟨rfl, _, Eq.trans (World.drewN_drewN _ _ _) (congrArg (World.drewN _) (Nat.add_assoc _ _ _))⟩); have p469 : 0 ≤ (t468 : Int) := of_decide_eq_true (by first | (with_reducible assumption) | assumption); have q469 : t468 < (x4_1.length : Int) := of_decide_eq_true (by first | (with_reducible assumption) | assumption); obtain ⟨ad469, e469, hx469_0⟩ := Kd.at_int (Kd.R_reads' HO_4.out).2.2 t468 p469 q469; obtain rfl : ad464 = ad469 := (by injection e469); replace p469 := eq_true p469; replace q469 := eq_true q469)))
                                        go_roundg k3
                                        case measure => have := HK1.out; have := HK2.out; have := HK3.out; omega
                                        case rel => exact ⟨(wrap64 (x7_3 + 1)), (by first | rfl | (simp; done) | (simp [*]; done)), H', ⟨by have := HK1.out; have := HK2.out; have := HK3.out; omega⟩, ⟨by (with_reducible repeat (first | apply Kd.R_alloc | apply Kd.R_drewN | apply Kd.R_drew)); exact HO_4.out⟩, ⟨by (with_reducible repeat (first | refine blk_drewN ?_ _ | refine blk_drew ?_ | refine blk_alloc ?_ _)); exact BK455.out⟩, ⟨by repeat (first | (with_reducible first | exact HB.out | apply below_alloc | apply pw_below_drewN | apply below_drew1 | refine below_set ?_ GE455.out) | exact HB.out)⟩⟩
                                      · rw [if_neg c27] at H
                                        have c27b0 : ((wrap64 ((rd x4_1 x6_2) + (rd x4_1 x7_3))) == (wrap64 ((rd x4_1 t466) + (rd x4_1 t468)))) = false := beq_eq_false_iff_ne.mpr c27
                                        have c27w0 : ((IntKind.i64.wrap ((rd x4_1 x6_2) + (rd x4_1 x7_3))) == (IntKind.i64.wrap ((rd x4_1 t466) + (rd x4_1 t468)))) = false := by simp only [i64_w]; exact c27b0
                                        have c27b1 : ((wrap64 ((rd x4_1 x6_2) + (rd x4_1 x7_3))) != (wrap64 ((rd x4_1 t466) + (rd x4_1 t468)))) = true := bne_iff_ne.mpr c27
                                        have c27w1 : ((IntKind.i64.wrap ((rd x4_1 x6_2) + (rd x4_1 x7_3))) != (IntKind.i64.wrap ((rd x4_1 t466) + (rd x4_1 t468)))) = true := by simp only [i64_w]; exact c27b1
                                        obtain rfl := Option.some.inj H
                                        obtain ⟨Ao30, co30, eo30⟩ := Kd.R_slice HO_4.out
                                        subst eo30
                                        have p464 : 0 ≤ (x6_2 : Int) := of_decide_eq_true (by first | (with_reducible assumption) | assumption)
                                        have q464 : x6_2 < (x4_1.length : Int) := of_decide_eq_true (by first | (with_reducible assumption) | assumption)
                                        obtain ⟨ad464, e464, hx464_0⟩ := Kd.at_int (Kd.R_reads' HO_4.out).2.2 x6_2 p464 q464
                                        cases e464
                                        replace p464 := eq_true p464
                                        replace q464 := eq_true q464
                                        have p465 : 0 ≤ (x7_3 : Int) := of_decide_eq_true (by first | (with_reducible assumption) | assumption)
                                        have q465 : x7_3 < (x4_1.length : Int) := of_decide_eq_true (by first | (with_reducible assumption) | assumption)
                                        obtain ⟨ad465, e465, hx465_0⟩ := Kd.at_int (Kd.R_reads' HO_4.out).2.2 x7_3 p465 q465
                                        obtain rfl : ad464 = ad465 := (by injection e465)
                                        replace p465 := eq_true p465
                                        replace q465 := eq_true q465
                                        have hcz31_0 : wr.cell? ⟨gb455, 0, none⟩ = some (.slice A0_0 l0_0.length c0_0) := (blk_cell BK455.out 0).trans rfl
                                        have hcz31_1 : wr.cell? ⟨gb455, 1, none⟩ = some (.slice A0_1 l0_1.length c0_1) := (blk_cell BK455.out 1).trans rfl
                                        have hfz31_0 := blk_frozen BK455.out 0
                                        have hfz31_1 := blk_frozen BK455.out 1
                                        go_wp2_with (first | (go_at_call 52; (with_reducible refine (spec_l1Meet.calls k3 _ _ l0_0 x6_2 x7_3 t466 _ ?side1 ?side2 A21.out).mono ?_); (case side1 => repeat (first | exact (Kd.C_below HR0_0.out HB.out) | (with_reducible refine Kd.C_alloc ?_ _) | (with_reducible refine Kd.C_drewN ?_ _) | (with_reducible refine Kd.C_drew ?_))); (case side2 => exact HC0_0.out); rintro e w' ⟨rfl, ⟨nd, rfl⟩⟩; (try first | exact ⟨rfl, _, World.drewN_drewN _ _ _⟩ | exact ⟨rfl, _, Eq.trans (World.drewN_drewN _ _ _) (congrArg (World.drewN _) (Nat.add_assoc _ _ _))⟩); have p467 : 0 ≤ (t466 : Int) := of_decide_eq_true (by first | (with_reducible assumption) | assumption); have q467 : t466 < (x4_1.length : Int) := of_decide_eq_true (by first | (with_reducible assumption) | assumption); obtain ⟨ad467, e467, hx467_0⟩ := Kd.at_int (Kd.R_reads' HO_4.out).2.2 t466 p467 q467; obtain rfl : ad464 = ad467 := (by injection e467); replace p467 := eq_true p467; replace q467 := eq_true q467) | (go_at_call 51; (with_reducible refine (spec_l1Join.calls k3 _ _ l0_0 x6_2 x7_3 t468 _ ?side1 ?side2 A24.out).mono ?_); (case side1 => repeat (first | exact (Kd.C_below HR0_0.out (by repeat (first | (with_reducible first | exact HB.out | apply below_alloc | apply pw_below_drewN | apply below_drew1 | refine below_set ?_ GE455.out) | exact HB.out))) | (with_reducible refine Kd.C_alloc ?_ _) | (with_reducible refine Kd.C_drewN ?_ _) | (with_reducible refine Kd.C_drew ?_))); (case side2 => exact HC0_0.out); rintro e w' ⟨rfl, ⟨nd, rfl⟩⟩; (try first | exact ⟨rfl, _, World.drewN_drewN _ _ _⟩ | exact ⟨rfl, _, Eq.trans (World.drewN_drewN _ _ _) (congrArg (World.drewN _) (Nat.add_assoc _ _ _))⟩); have p469 : 0 ≤ (t468 : Int) := of_decide_eq_true (by first | (with_reducible assumption) | assumption); have q469 : t468 < (x4_1.length : Int) := of_decide_eq_true (by first | (with_reducible assumption) | assumption); obtain ⟨ad469, e469, hx469_0⟩ := Kd.at_int (Kd.R_reads' HO_4.out).2.2 t468 p469 q469; obtain rfl : ad464 = ad469 := (by injection e469); replace p469 := eq_true p469; replace q469 := eq_true q469))
                                        repeat (go_quiet (first | (go_at_call 52; (with_reducible refine (spec_l1Meet.calls k3 _ _ l0_0 x6_2 x7_3 t466 _ ?side1 ?side2 A21.out).mono ?_); (case side1 => repeat (first | exact (Kd.C_below HR0_0.out HB.out) | (with_reducible refine Kd.C_alloc ?_ _) | (with_reducible refine Kd.C_drewN ?_ _) | (with_reducible refine Kd.C_drew ?_))); (case side2 => exact HC0_0.out); rintro e w' ⟨rfl, ⟨nd, rfl⟩⟩; (try first | exact ⟨rfl, _, World.drewN_drewN _ _ _⟩ | exact ⟨rfl, _, Eq.trans (World.drewN_drewN _ _ _) (congrArg (World.drewN _) (Nat.add_assoc _ _ _))⟩); have p467 : 0 ≤ (t466 : Int) := of_decide_eq_true (by first | (with_reducible assumption) | assumption); have q467 : t466 < (x4_1.length : Int) := of_decide_eq_true (by first | (with_reducible assumption) | assumption); obtain ⟨ad467, e467, hx467_0⟩ := Kd.at_int (Kd.R_reads' HO_4.out).2.2 t466 p467 q467; obtain rfl : ad464 = ad467 := (by injection e467); replace p467 := eq_true p467; replace q467 := eq_true q467) | (go_at_call 51; (with_reducible refine (spec_l1Join.calls k3 _ _ l0_0 x6_2 x7_3 t468 _ ?side1 ?side2 A24.out).mono ?_); (case side1 => repeat (first | exact (Kd.C_below HR0_0.out (by repeat (first | (with_reducible first | exact HB.out | apply below_alloc | apply pw_below_drewN | apply below_drew1 | refine below_set ?_ GE455.out) | exact HB.out))) | (with_reducible refine Kd.C_alloc ?_ _) | (with_reducible refine Kd.C_drewN ?_ _) | (with_reducible refine Kd.C_drew ?_))); (case side2 => exact HC0_0.out); rintro e w' ⟨rfl, ⟨nd, rfl⟩⟩; (try first | exact ⟨rfl, _, World.drewN_drewN _ _ _⟩ | exact ⟨rfl, _, Eq.trans (World.drewN_drewN _ _ _) (congrArg (World.drewN _) (Nat.add_assoc _ _ _))⟩); have p469 : 0 ≤ (t468 : Int) := of_decide_eq_true (by first | (with_reducible assumption) | assumption); have q469 : t468 < (x4_1.length : Int) := of_decide_eq_true (by first | (with_reducible assumption) | assumption); obtain ⟨ad469, e469, hx469_0⟩ := Kd.at_int (Kd.R_reads' HO_4.out).2.2 t468 p469 q469; obtain rfl : ad464 = ad469 := (by injection e469); replace p469 := eq_true p469; replace q469 := eq_true q469)); try go_wp2_with (first | (go_at_call 52; (with_reducible refine (spec_l1Meet.calls k3 _ _ l0_0 x6_2 x7_3 t466 _ ?side1 ?side2 A21.out).mono ?_); (case side1 => repeat (first | exact (Kd.C_below HR0_0.out HB.out) | (with_reducible refine Kd.C_alloc ?_ _) | (with_reducible refine Kd.C_drewN ?_ _) | (with_reducible refine Kd.C_drew ?_))); (case side2 => exact HC0_0.out); rintro e w' ⟨rfl, ⟨nd, rfl⟩⟩; (try first | exact ⟨rfl, _, World.drewN_drewN _ _ _⟩ | exact ⟨rfl, _, Eq.trans (World.drewN_drewN _ _ _) (congrArg (World.drewN _) (Nat.add_assoc _ _ _))⟩); have p467 : 0 ≤ (t466 : Int) := of_decide_eq_true (by first | (with_reducible assumption) | assumption); have q467 : t466 < (x4_1.length : Int) := of_decide_eq_true (by first | (with_reducible assumption) | assumption); obtain ⟨ad467, e467, hx467_0⟩ := Kd.at_int (Kd.R_reads' HO_4.out).2.2 t466 p467 q467; obtain rfl : ad464 = ad467 := (by injection e467); replace p467 := eq_true p467; replace q467 := eq_true q467) | (go_at_call 51; (with_reducible refine (spec_l1Join.calls k3 _ _ l0_0 x6_2 x7_3 t468 _ ?side1 ?side2 A24.out).mono ?_); (case side1 => repeat (first | exact (Kd.C_below HR0_0.out (by repeat (first | (with_reducible first | exact HB.out | apply below_alloc | apply pw_below_drewN | apply below_drew1 | refine below_set ?_ GE455.out) | exact HB.out))) | (with_reducible refine Kd.C_alloc ?_ _) | (with_reducible refine Kd.C_drewN ?_ _) | (with_reducible refine Kd.C_drew ?_))); (case side2 => exact HC0_0.out); rintro e w' ⟨rfl, ⟨nd, rfl⟩⟩; (try first | exact ⟨rfl, _, World.drewN_drewN _ _ _⟩ | exact ⟨rfl, _, Eq.trans (World.drewN_drewN _ _ _) (congrArg (World.drewN _) (Nat.add_assoc _ _ _))⟩); have p469 : 0 ≤ (t468 : Int) := of_decide_eq_true (by first | (with_reducible assumption) | assumption); have q469 : t468 < (x4_1.length : Int) := of_decide_eq_true (by first | (with_reducible assumption) | assumption); obtain ⟨ad469, e469, hx469_0⟩ := Kd.at_int (Kd.R_reads' HO_4.out).2.2 t468 p469 q469; obtain rfl : ad464 = ad469 := (by injection e469); replace p469 := eq_true p469; replace q469 := eq_true q469)))
                                        go_ret
                                        exact ⟨by first | rfl | (simp [errW_none, errW_some] <;> rfl) | (simp [*, errW_none, errW_some] <;> rfl), by repeat (first | (with_reducible first | exact HB.out | apply below_alloc | apply pw_below_drewN | apply below_drew1 | refine below_set ?_ GE455.out) | exact HB.out)⟩
                                    · rw [if_neg c26] at H
                                      exact absurd H (by simp)
                                  · rw [if_neg c25] at H
                                    exact absurd H (by simp)
                                · rw [if_neg c23] at H
                                  exact absurd H (by simp)
                              · rw [if_neg c22] at H
                                exact absurd H (by simp)
                            · rw [if_neg c20] at H
                              exact absurd H (by simp)
                          · rw [if_neg c19] at H
                            exact absurd H (by simp)
                        · rw [if_neg c18] at H
                          exact absurd H (by simp)
                      · rw [if_neg c17] at H
                        exact absurd H (by simp)
                    · rw [if_neg c16] at H
                      have c16b0 : decide (x7_3 < x6_2) = false := decide_eq_false c16
                      clear c16
                      have H' := Aside0.mk H
                      clear H
                      go_wp2
                      repeat (go_quiet (fail); try go_wp2)
                      go_roundg k3
                      case measure => have := HK1.out; have := HK2.out; have := HK3.out; omega
                      case rel => exact ⟨(wrap64 (x6_2 + 1)), (by first | rfl | (simp; done) | (simp [*]; done)), H', ⟨by have := HK1.out; have := HK2.out; have := HK3.out; omega⟩, ⟨by (with_reducible repeat (first | apply Kd.R_alloc | apply Kd.R_drewN | apply Kd.R_drew)); exact HO_4.out⟩, ⟨by (with_reducible repeat (first | refine blk_drewN ?_ _ | refine blk_drew ?_ | refine blk_alloc ?_ _)); exact BK455.out⟩, ⟨by repeat (first | (with_reducible first | exact HB.out | apply below_alloc | apply pw_below_drewN | apply below_drew1 | refine below_set ?_ GE455.out) | exact HB.out)⟩⟩
              · rw [if_neg c15] at H
                have c15b0 : decide (x6_2 < (l0_1.length : Int)) = false := decide_eq_false c15
                clear c15
                obtain rfl := Option.some.inj H
                go_wp2
                repeat (go_quiet (fail); try go_wp2)
                go_ret
                exact ⟨by first | rfl | (simp [errW_none, errW_some] <;> rfl) | (simp [*, errW_none, errW_some] <;> rfl), by repeat (first | (with_reducible first | exact HB.out | apply below_alloc | apply pw_below_drewN | apply below_drew1 | refine below_set ?_ GE455.out) | exact HB.out)⟩
  · replace c3 := Bool.eq_false_iff.mpr c3
    subst c3
    have H1 : (some false) = some r := by rw [if_neg (show ¬ (false = true) by decide)] at H; exact H
    clear H
    have H := H1
    clear H1
    obtain rfl := Option.some.inj H
    go_enter Try.func32, Try.ntmps32
    go_wp2_with (first | ((with_reducible refine gate_dst (N := 1) rfl ?_); refine box_event ?hg (N := 1) ?hd (cs := #[.slice A0_0 l0_0.length c0_0, .slice A0_1 l0_1.length c0_1]) (t := 29) ?hr ?_; (case hd => rfl); (case hg => rfl); (case hr => first | (go_simp; done) | (go_simp; rfl)); intro gb455 hg w32 hbox hb; have n0_ := Aside0.mk (below_step (by repeat (first | (with_reducible first | exact HB.out | apply below_alloc | apply pw_below_drewN | apply below_drew1) | exact HB.out)) hb); have n1_ := Aside0.mk (hbox); have n2_ := Aside0.mk ((by rw [hg]; exact (below_size (by repeat (first | (with_reducible first | exact HB.out | apply below_alloc | apply pw_below_drewN | apply below_drew1) | exact HB.out))) : w.heap.size ≤ gb455)); have n3_ := Aside0.mk ((by rw [hg]; exact (below_size (by repeat (first | (with_reducible first | exact HB.out | apply below_alloc | apply pw_below_drewN | apply below_drew1) | exact HB.out))) : w.heap.size ≤ gb455)); clear HB; have HB := n0_; have BK455 := n1_; have GW455 := n2_; have GE455 := n3_; clear n0_ n1_ n2_ n3_; clear hb hbox hg; have hcz33_0 : w32.cell? ⟨gb455, 0, none⟩ = some (.slice A0_0 l0_0.length c0_0) := (blk_cell BK455.out 0).trans rfl; have hcz33_1 : w32.cell? ⟨gb455, 1, none⟩ = some (.slice A0_1 l0_1.length c0_1) := (blk_cell BK455.out 1).trans rfl; have hfz33_0 := blk_frozen BK455.out 0; have hfz33_1 := blk_frozen BK455.out 1) | (go_at_call 59; (with_reducible refine (spec_LogicOk.calls k _ _ l0_0 _ _ l0_1 false _ ?side1 ?side2 ?side3 ?side4 A2.out).mono ?_); (case side1 => repeat (first | exact (Kd.C_below HR0_0.out HB.out) | (with_reducible refine Kd.C_alloc ?_ _) | (with_reducible refine Kd.C_drewN ?_ _) | (with_reducible refine Kd.C_drew ?_))); (case side2 => exact HC0_0.out); (case side3 => repeat (first | exact (Kd.C_below HR0_1.out HB.out) | (with_reducible refine Kd.C_alloc ?_ _) | (with_reducible refine Kd.C_drewN ?_ _) | (with_reducible refine Kd.C_drew ?_))); (case side4 => exact HC0_1.out); rintro e w34 ⟨rfl, hb⟩; have n0_ := Aside0.mk (blk_below (g := gb455) (o := .cells #[.slice A0_0 l0_0.length c0_0, .slice A0_1 l0_1.length c0_1] 29 (0, 0)) (by (with_reducible repeat (first | refine blk_drewN ?_ _ | refine blk_drew ?_ | refine blk_alloc ?_ _)); exact BK455.out) hb); have n1_ := Aside0.mk (below_step (by repeat (first | (with_reducible first | exact HB.out | apply below_alloc | apply pw_below_drewN | apply below_drew1 | refine below_set ?_ GE455.out) | exact HB.out)) hb); clear BK455; clear HB; have BK455 := n0_; have HB := n1_; clear n0_ n1_; (try clear hb); (try clear hb2); (try clear hk); (try clear hi)))
    repeat (go_quiet (first | ((with_reducible refine gate_dst (N := 1) rfl ?_); refine box_event ?hg (N := 1) ?hd (cs := #[.slice A0_0 l0_0.length c0_0, .slice A0_1 l0_1.length c0_1]) (t := 29) ?hr ?_; (case hd => rfl); (case hg => rfl); (case hr => first | (go_simp; done) | (go_simp; rfl)); intro gb455 hg w32 hbox hb; have n0_ := Aside0.mk (below_step (by repeat (first | (with_reducible first | exact HB.out | apply below_alloc | apply pw_below_drewN | apply below_drew1) | exact HB.out)) hb); have n1_ := Aside0.mk (hbox); have n2_ := Aside0.mk ((by rw [hg]; exact (below_size (by repeat (first | (with_reducible first | exact HB.out | apply below_alloc | apply pw_below_drewN | apply below_drew1) | exact HB.out))) : w.heap.size ≤ gb455)); have n3_ := Aside0.mk ((by rw [hg]; exact (below_size (by repeat (first | (with_reducible first | exact HB.out | apply below_alloc | apply pw_below_drewN | apply below_drew1) | exact HB.out))) : w.heap.size ≤ gb455)); clear HB; have HB := n0_; have BK455 := n1_; have GW455 := n2_; have GE455 := n3_; clear n0_ n1_ n2_ n3_; clear hb hbox hg; have hcz33_0 : w32.cell? ⟨gb455, 0, none⟩ = some (.slice A0_0 l0_0.length c0_0) := (blk_cell BK455.out 0).trans rfl; have hcz33_1 : w32.cell? ⟨gb455, 1, none⟩ = some (.slice A0_1 l0_1.length c0_1) := (blk_cell BK455.out 1).trans rfl; have hfz33_0 := blk_frozen BK455.out 0; have hfz33_1 := blk_frozen BK455.out 1) | (go_at_call 59; (with_reducible refine (spec_LogicOk.calls k _ _ l0_0 _ _ l0_1 false _ ?side1 ?side2 ?side3 ?side4 A2.out).mono ?_); (case side1 => repeat (first | exact (Kd.C_below HR0_0.out HB.out) | (with_reducible refine Kd.C_alloc ?_ _) | (with_reducible refine Kd.C_drewN ?_ _) | (with_reducible refine Kd.C_drew ?_))); (case side2 => exact HC0_0.out); (case side3 => repeat (first | exact (Kd.C_below HR0_1.out HB.out) | (with_reducible refine Kd.C_alloc ?_ _) | (with_reducible refine Kd.C_drewN ?_ _) | (with_reducible refine Kd.C_drew ?_))); (case side4 => exact HC0_1.out); rintro e w34 ⟨rfl, hb⟩; have n0_ := Aside0.mk (blk_below (g := gb455) (o := .cells #[.slice A0_0 l0_0.length c0_0, .slice A0_1 l0_1.length c0_1] 29 (0, 0)) (by (with_reducible repeat (first | refine blk_drewN ?_ _ | refine blk_drew ?_ | refine blk_alloc ?_ _)); exact BK455.out) hb); have n1_ := Aside0.mk (below_step (by repeat (first | (with_reducible first | exact HB.out | apply below_alloc | apply pw_below_drewN | apply below_drew1 | refine below_set ?_ GE455.out) | exact HB.out)) hb); clear BK455; clear HB; have BK455 := n0_; have HB := n1_; clear n0_ n1_; (try clear hb); (try clear hb2); (try clear hk); (try clear hi))); try go_wp2_with (first | ((with_reducible refine gate_dst (N := 1) rfl ?_); refine box_event ?hg (N := 1) ?hd (cs := #[.slice A0_0 l0_0.length c0_0, .slice A0_1 l0_1.length c0_1]) (t := 29) ?hr ?_; (case hd => rfl); (case hg => rfl); (case hr => first | (go_simp; done) | (go_simp; rfl)); intro gb455 hg w32 hbox hb; have n0_ := Aside0.mk (below_step (by repeat (first | (with_reducible first | exact HB.out | apply below_alloc | apply pw_below_drewN | apply below_drew1) | exact HB.out)) hb); have n1_ := Aside0.mk (hbox); have n2_ := Aside0.mk ((by rw [hg]; exact (below_size (by repeat (first | (with_reducible first | exact HB.out | apply below_alloc | apply pw_below_drewN | apply below_drew1) | exact HB.out))) : w.heap.size ≤ gb455)); have n3_ := Aside0.mk ((by rw [hg]; exact (below_size (by repeat (first | (with_reducible first | exact HB.out | apply below_alloc | apply pw_below_drewN | apply below_drew1) | exact HB.out))) : w.heap.size ≤ gb455)); clear HB; have HB := n0_; have BK455 := n1_; have GW455 := n2_; have GE455 := n3_; clear n0_ n1_ n2_ n3_; clear hb hbox hg; have hcz33_0 : w32.cell? ⟨gb455, 0, none⟩ = some (.slice A0_0 l0_0.length c0_0) := (blk_cell BK455.out 0).trans rfl; have hcz33_1 : w32.cell? ⟨gb455, 1, none⟩ = some (.slice A0_1 l0_1.length c0_1) := (blk_cell BK455.out 1).trans rfl; have hfz33_0 := blk_frozen BK455.out 0; have hfz33_1 := blk_frozen BK455.out 1) | (go_at_call 59; (with_reducible refine (spec_LogicOk.calls k _ _ l0_0 _ _ l0_1 false _ ?side1 ?side2 ?side3 ?side4 A2.out).mono ?_); (case side1 => repeat (first | exact (Kd.C_below HR0_0.out HB.out) | (with_reducible refine Kd.C_alloc ?_ _) | (with_reducible refine Kd.C_drewN ?_ _) | (with_reducible refine Kd.C_drew ?_))); (case side2 => exact HC0_0.out); (case side3 => repeat (first | exact (Kd.C_below HR0_1.out HB.out) | (with_reducible refine Kd.C_alloc ?_ _) | (with_reducible refine Kd.C_drewN ?_ _) | (with_reducible refine Kd.C_drew ?_))); (case side4 => exact HC0_1.out); rintro e w34 ⟨rfl, hb⟩; have n0_ := Aside0.mk (blk_below (g := gb455) (o := .cells #[.slice A0_0 l0_0.length c0_0, .slice A0_1 l0_1.length c0_1] 29 (0, 0)) (by (with_reducible repeat (first | refine blk_drewN ?_ _ | refine blk_drew ?_ | refine blk_alloc ?_ _)); exact BK455.out) hb); have n1_ := Aside0.mk (below_step (by repeat (first | (with_reducible first | exact HB.out | apply below_alloc | apply pw_below_drewN | apply below_drew1 | refine below_set ?_ GE455.out) | exact HB.out)) hb); clear BK455; clear HB; have BK455 := n0_; have HB := n1_; clear n0_ n1_; (try clear hb); (try clear hb2); (try clear hk); (try clear hi))))
    go_ret
    exact ⟨by first | rfl | (simp [errW_none, errW_some] <;> rfl) | (simp [*, errW_none, errW_some] <;> rfl), by repeat (first | (with_reducible first | exact HB.out | apply below_alloc | apply pw_below_drewN | apply below_drew1 | refine below_set ?_ GE455.out) | exact HB.out)⟩
end Go.Proofs.Ytjoadckkdophnaa.Print
end
section
namespace Go.Proofs.Ytjoadckkdophnaa.Print
open Go.RowKit Go.Proofs.YtjoadckkdophnaaW.PrintWords Go.Proofs.YtjoadckkdophnaaW.PrintLast Go.Proofs.YtjoadckkdophnaaW.PrintMore
attribute [local go_sem] max2_int min2_int max_two min_two max_three min_three max_four min_four   -- for this text's walks alone
set_option linter.unusedVariables false
set_option linter.unusedSimpArgs false
def laws_FnExactAddsUpOk.f (k : Nat) (l0_0 : List (List Int)) (l0_1 : List Int) : Option (Bool) := (laws_szLogic.f k l0_0 l0_1 1048576).bind fun t471 => (if t471 < 0 then (some true) else ((laws_toLogic.f k l0_0 l0_1).bind fun bt472 => ((spec_AddsUpOk.f k bt472.1 bt472.2).bind fun t478 => ((laws_toLogic.f k l0_0 l0_1).bind fun bt479 => ((impl_AddsUpOk.f bt479.1 bt479.2).bind fun t486 => (if (t486 != t478) = true then (some false) else ((laws_toLogic.f k l0_0 l0_1).bind fun bt487 => ((laws_eqLogic.f k bt479.1 bt479.2 bt487.1 bt487.2).bind fun t493 => (if t493 = true then (some true) else (some false))))))))))
set_option maxHeartbeats 8000000 in
set_option maxRecDepth 100000 in
theorem laws_FnExactAddsUpOk.calls (k : Nat) (A0_0 : Option Addr) (c0_0 : Nat) (l0_0 : List (List Int)) (A0_1 : Option Addr) (c0_1 : Nat) (l0_1 : List Int) (r : Bool) (w : World) (hr0_0 : Kd.C (Kd.slice 3 (Kd.int .i64)) w A0_0 l0_0.length l0_0) (hc0_0 : l0_0.length ≤ c0_0) (hr0_1 : Kd.C (Kd.int .i64) w A0_1 l0_1.length l0_1) (hc0_1 : l0_1.length ≤ c0_1) (h : laws_FnExactAddsUpOk.f k l0_0 l0_1 = some r) :
    Calls Try.prog 10 #[.agg #[.slice A0_0 l0_0.length c0_0, .slice A0_1 l0_1.length c0_1]] w fun e w' => e = .returned (.bool r) ∧ Below w.heap.size w w' := by
  have hu26 := Try.underlying26
  have hu29 := Try.underlying29
  have HR0_0 := Aside0.mk hr0_0
  have HC0_0 := Aside0.mk hc0_0
  clear hr0_0 hc0_0
  have HR0_1 := Aside0.mk hr0_1
  have HC0_1 := Aside0.mk hc0_1
  clear hr0_1 hc0_1
  have HB := Aside0.mk (Below.refl w.heap.size w)
  have H : ((laws_szLogic.f k l0_0 l0_1 1048576).bind fun t471 => (if t471 < 0 then (some true) else ((laws_toLogic.f k l0_0 l0_1).bind fun bt472 => ((spec_AddsUpOk.f k bt472.1 bt472.2).bind fun t478 => ((laws_toLogic.f k l0_0 l0_1).bind fun bt479 => ((impl_AddsUpOk.f bt479.1 bt479.2).bind fun t486 => (if (t486 != t478) = true then (some false) else ((laws_toLogic.f k l0_0 l0_1).bind fun bt487 => ((laws_eqLogic.f k bt479.1 bt479.2 bt487.1 bt487.2).bind fun t493 => (if t493 = true then (some true) else (some false))))))))))) = some r := h
  clear h
  replace H := Option.bind_eq_some_iff.mp H
  obtain ⟨t471, A20, H⟩ := H
  replace H : (if t471 < 0 then (some true) else ((laws_toLogic.f k l0_0 l0_1).bind fun bt472 => ((spec_AddsUpOk.f k bt472.1 bt472.2).bind fun t478 => ((laws_toLogic.f k l0_0 l0_1).bind fun bt479 => ((impl_AddsUpOk.f bt479.1 bt479.2).bind fun t486 => (if (t486 != t478) = true then (some false) else ((laws_toLogic.f k l0_0 l0_1).bind fun bt487 => ((laws_eqLogic.f k bt479.1 bt479.2 bt487.1 bt487.2).bind fun t493 => (if t493 = true then (some true) else (some false)))))))))) = some r := H
  have A2 := Aside0.mk A20
  clear A20
  by_cases c3 : t471 < 0
  · rw [if_pos c3] at H
    have c3b0 : decide (t471 < 0) = true := decide_eq_true c3
    clear c3
    obtain rfl := Option.some.inj H
    go_enter Try.func10, Try.ntmps10
    go_wp2_with (first | ((with_reducible refine gate_dst (N := 1) rfl ?_); refine box_event ?hg (N := 1) ?hd (cs := #[.slice A0_0 l0_0.length c0_0, .slice A0_1 l0_1.length c0_1]) (t := 26) ?hr ?_; (case hd => rfl); (case hg => rfl); (case hr => first | (go_simp; done) | (go_simp; rfl)); intro gb470 hg w4 hbox hb; have n0_ := Aside0.mk (below_step (by repeat (first | (with_reducible first | exact HB.out | apply below_alloc | apply pw_below_drewN | apply below_drew1) | exact HB.out)) hb); have n1_ := Aside0.mk (hbox); have n2_ := Aside0.mk ((by rw [hg]; exact (below_size (by repeat (first | (with_reducible first | exact HB.out | apply below_alloc | apply pw_below_drewN | apply below_drew1) | exact HB.out))) : w.heap.size ≤ gb470)); have n3_ := Aside0.mk ((by rw [hg]; exact (below_size (by repeat (first | (with_reducible first | exact HB.out | apply below_alloc | apply pw_below_drewN | apply below_drew1) | exact HB.out))) : w.heap.size ≤ gb470)); clear HB; have HB := n0_; have BK470 := n1_; have GW470 := n2_; have GE470 := n3_; clear n0_ n1_ n2_ n3_; clear hb hbox hg; have hcz5_0 : w4.cell? ⟨gb470, 0, none⟩ = some (.slice A0_0 l0_0.length c0_0) := (blk_cell BK470.out 0).trans rfl; have hcz5_1 : w4.cell? ⟨gb470, 1, none⟩ = some (.slice A0_1 l0_1.length c0_1) := (blk_cell BK470.out 1).trans rfl; have hfz5_0 := blk_frozen BK470.out 0; have hfz5_1 := blk_frozen BK470.out 1) | ((with_reducible refine gate_callee (f := 17) rfl ?_); refine goesL_ (some 9) rfl rfl Try.func17 (by kernel_rfl) rfl #[.agg #[.slice A0_0 l0_0.length c0_0, .slice A0_1 l0_1.length c0_1], .int .i64 1048576] rfl (by (try simp only [List.map_toArray, List.map_cons, List.map_nil]); first | done | rfl | (simp only [List.length_drop, List.length_take]; rfl)) ?_; (with_reducible refine (laws_szLogic.calls k _ _ l0_0 _ _ l0_1 1048576 t471 _ ?side1 ?side2 ?side3 ?side4 A2.out).mono ?_); (case side1 => repeat (first | exact (Kd.C_below HR0_0.out HB.out) | (with_reducible refine Kd.C_alloc ?_ _) | (with_reducible refine Kd.C_drewN ?_ _) | (with_reducible refine Kd.C_drew ?_))); (case side2 => exact HC0_0.out); (case side3 => repeat (first | exact (Kd.C_below HR0_1.out HB.out) | (with_reducible refine Kd.C_alloc ?_ _) | (with_reducible refine Kd.C_drewN ?_ _) | (with_reducible refine Kd.C_drew ?_))); (case side4 => exact HC0_1.out); rintro e w6 ⟨rfl, hb⟩; refine ⟨_, rfl, ?_⟩; have n0_ := Aside0.mk (blk_below (g := gb470) (o := .cells #[.slice A0_0 l0_0.length c0_0, .slice A0_1 l0_1.length c0_1] 26 (0, 0)) (by (with_reducible repeat (first | refine blk_drewN ?_ _ | refine blk_drew ?_ | refine blk_alloc ?_ _)); exact BK470.out) hb); have n1_ := Aside0.mk (below_step (by repeat (first | (with_reducible first | exact HB.out | apply below_alloc | apply pw_below_drewN | apply below_drew1 | refine below_set ?_ GE470.out) | exact HB.out)) hb); clear BK470; clear HB; have BK470 := n0_; have HB := n1_; clear n0_ n1_; (try clear hb); (try clear hb2); (try clear hk); (try clear hi)))
    go_ret
    exact ⟨by first | rfl | (simp [errW_none, errW_some] <;> rfl) | (simp [*, errW_none, errW_some] <;> rfl), by repeat (first | (with_reducible first | exact HB.out | apply below_alloc | apply pw_below_drewN | apply below_drew1 | refine below_set ?_ GE470.out) | exact HB.out)⟩
  · rw [if_neg c3] at H
    have c3b0 : decide (t471 < 0) = false := decide_eq_false c3
    clear c3
    replace H := Option.bind_eq_some_iff.mp H
    obtain ⟨⟨t472, t475⟩, A70, H⟩ := H
    replace H : ((spec_AddsUpOk.f k t472 t475).bind fun t478 => ((laws_toLogic.f k l0_0 l0_1).bind fun bt479 => ((impl_AddsUpOk.f bt479.1 bt479.2).bind fun t486 => (if (t486 != t478) = true then (some false) else ((laws_toLogic.f k l0_0 l0_1).bind fun bt487 => ((laws_eqLogic.f k bt479.1 bt479.2 bt487.1 bt487.2).bind fun t493 => (if t493 = true then (some true) else (some false)))))))) = some r := H
    have A7 := Aside0.mk A70
    clear A70
    replace H := Option.bind_eq_some_iff.mp H
    obtain ⟨t478, A80, H⟩ := H
    replace H : ((laws_toLogic.f k l0_0 l0_1).bind fun bt479 => ((impl_AddsUpOk.f bt479.1 bt479.2).bind fun t486 => (if (t486 != t478) = true then (some false) else ((laws_toLogic.f k l0_0 l0_1).bind fun bt487 => ((laws_eqLogic.f k bt479.1 bt479.2 bt487.1 bt487.2).bind fun t493 => (if t493 = true then (some true) else (some false))))))) = some r := H
    have A8 := Aside0.mk A80
    clear A80
    replace H := Option.bind_eq_some_iff.mp H
    obtain ⟨⟨t479, t482⟩, A90, H⟩ := H
    replace H : ((impl_AddsUpOk.f t479 t482).bind fun t486 => (if (t486 != t478) = true then (some false) else ((laws_toLogic.f k l0_0 l0_1).bind fun bt487 => ((laws_eqLogic.f k t479 t482 bt487.1 bt487.2).bind fun t493 => (if t493 = true then (some true) else (some false)))))) = some r := H
    have A9 := Aside0.mk A90
    clear A90
    replace H := Option.bind_eq_some_iff.mp H
    obtain ⟨t486, A100, H⟩ := H
    replace H : (if (t486 != t478) = true then (some false) else ((laws_toLogic.f k l0_0 l0_1).bind fun bt487 => ((laws_eqLogic.f k t479 t482 bt487.1 bt487.2).bind fun t493 => (if t493 = true then (some true) else (some false))))) = some r := H
    have A10 := Aside0.mk A100
    clear A100
    by_cases c11 : (t486 != t478) = true
    · rw [if_pos c11] at H
      have c11b0 : (t486 != t478) = true := c11
      (try (have c11b1 : decide (t486 = t478) = false := by simpa using c11))
      (try (have c11b2 : (t486 == t478) = false := by simpa using c11))
      (try (have c11b3 : ¬ (t486 = t478) := by simpa using c11))
      clear c11
      obtain rfl := Option.some.inj H
      go_enter Try.func10, Try.ntmps10
      go_wp2_with (first | ((with_reducible refine gate_dst (N := 1) rfl ?_); refine box_event ?hg (N := 1) ?hd (cs := #[.slice A0_0 l0_0.length c0_0, .slice A0_1 l0_1.length c0_1]) (t := 26) ?hr ?_; (case hd => rfl); (case hg => rfl); (case hr => first | (go_simp; done) | (go_simp; rfl)); intro gb470 hg w12 hbox hb; have n0_ := Aside0.mk (below_step (by repeat (first | (with_reducible first | exact HB.out | apply below_alloc | apply pw_below_drewN | apply below_drew1) | exact HB.out)) hb); have n1_ := Aside0.mk (hbox); have n2_ := Aside0.mk ((by rw [hg]; exact (below_size (by repeat (first | (with_reducible first | exact HB.out | apply below_alloc | apply pw_below_drewN | apply below_drew1) | exact HB.out))) : w.heap.size ≤ gb470)); have n3_ := Aside0.mk ((by rw [hg]; exact (below_size (by repeat (first | (with_reducible first | exact HB.out | apply below_alloc | apply pw_below_drewN | apply below_drew1) | exact HB.out))) : w.heap.size ≤ gb470)); clear HB; have HB := n0_; have BK470 := n1_; have GW470 := n2_; have GE470 := n3_; clear n0_ n1_ n2_ n3_; clear hb hbox hg; have hcz13_0 : w12.cell? ⟨gb470, 0, none⟩ = some (.slice A0_0 l0_0.length c0_0) := (blk_cell BK470.out 0).trans rfl; have hcz13_1 : w12.cell? ⟨gb470, 1, none⟩ = some (.slice A0_1 l0_1.length c0_1) := (blk_cell BK470.out 1).trans rfl; have hfz13_0 := blk_frozen BK470.out 0; have hfz13_1 := blk_frozen BK470.out 1) | ((with_reducible refine gate_callee (f := 17) rfl ?_); refine goesL_ (some 9) rfl rfl Try.func17 (by kernel_rfl) rfl #[.agg #[.slice A0_0 l0_0.length c0_0, .slice A0_1 l0_1.length c0_1], .int .i64 1048576] rfl (by (try simp only [List.map_toArray, List.map_cons, List.map_nil]); first | done | rfl | (simp only [List.length_drop, List.length_take]; rfl)) ?_; (with_reducible refine (laws_szLogic.calls k _ _ l0_0 _ _ l0_1 1048576 t471 _ ?side1 ?side2 ?side3 ?side4 A2.out).mono ?_); (case side1 => repeat (first | exact (Kd.C_below HR0_0.out HB.out) | (with_reducible refine Kd.C_alloc ?_ _) | (with_reducible refine Kd.C_drewN ?_ _) | (with_reducible refine Kd.C_drew ?_))); (case side2 => exact HC0_0.out); (case side3 => repeat (first | exact (Kd.C_below HR0_1.out HB.out) | (with_reducible refine Kd.C_alloc ?_ _) | (with_reducible refine Kd.C_drewN ?_ _) | (with_reducible refine Kd.C_drew ?_))); (case side4 => exact HC0_1.out); rintro e w14 ⟨rfl, hb⟩; refine ⟨_, rfl, ?_⟩; have n0_ := Aside0.mk (blk_below (g := gb470) (o := .cells #[.slice A0_0 l0_0.length c0_0, .slice A0_1 l0_1.length c0_1] 26 (0, 0)) (by (with_reducible repeat (first | refine blk_drewN ?_ _ | refine blk_drew ?_ | refine blk_alloc ?_ _)); exact BK470.out) hb); have n1_ := Aside0.mk (below_step (by repeat (first | (with_reducible first | exact HB.out | apply below_alloc | apply pw_below_drewN | apply below_drew1 | refine below_set ?_ GE470.out) | exact HB.out)) hb); clear BK470; clear HB; have BK470 := n0_; have HB := n1_; clear n0_ n1_; (try clear hb); (try clear hb2); (try clear hk); (try clear hi); have hcz15_0 : w14.cell? ⟨gb470, 0, none⟩ = some (.slice A0_0 l0_0.length c0_0) := (blk_cell BK470.out 0).trans rfl; have hcz15_1 : w14.cell? ⟨gb470, 1, none⟩ = some (.slice A0_1 l0_1.length c0_1) := (blk_cell BK470.out 1).trans rfl; have hfz15_0 := blk_frozen BK470.out 0; have hfz15_1 := blk_frozen BK470.out 1) | ((with_reducible refine gate_callee (f := 19) rfl ?_); refine goesL_ (some 13) rfl rfl Try.func19 (by kernel_rfl) rfl #[.agg #[.slice A0_0 l0_0.length c0_0, .slice A0_1 l0_1.length c0_1]] rfl (by (try simp only [List.map_toArray, List.map_cons, List.map_nil]); first | done | rfl | (simp only [List.length_drop, List.length_take]; rfl)) ?_; (with_reducible refine (laws_toLogic.calls k _ _ l0_0 _ _ l0_1 t472 t475 _ ?side1 ?side2 ?side3 ?side4 A7.out).mono ?_); (case side1 => repeat (first | exact (Kd.C_below HR0_0.out HB.out) | (with_reducible refine Kd.C_alloc ?_ _) | (with_reducible refine Kd.C_drewN ?_ _) | (with_reducible refine Kd.C_drew ?_))); (case side2 => exact HC0_0.out); (case side3 => repeat (first | exact (Kd.C_below HR0_1.out HB.out) | (with_reducible refine Kd.C_alloc ?_ _) | (with_reducible refine Kd.C_drewN ?_ _) | (with_reducible refine Kd.C_drew ?_))); (case side4 => exact HC0_1.out); rintro e w16 ⟨v473, v476, rfl, ho0, ho1, hb⟩; refine ⟨_, rfl, ?_⟩; have n0_ := Aside0.mk (Kd.S_lower ho0 (below_size (by repeat (first | (with_reducible first | exact HB.out | apply below_alloc | apply pw_below_drewN | apply below_drew1 | refine below_set ?_ GE470.out) | exact HB.out)))); have n1_ := Aside0.mk (Kd.R_lower ho1 (below_size (by repeat (first | (with_reducible first | exact HB.out | apply below_alloc | apply pw_below_drewN | apply below_drew1 | refine below_set ?_ GE470.out) | exact HB.out)))); have n2_ := Aside0.mk (blk_below (g := gb470) (o := .cells #[.slice A0_0 l0_0.length c0_0, .slice A0_1 l0_1.length c0_1] 26 (0, 0)) (by (with_reducible repeat (first | refine blk_drewN ?_ _ | refine blk_drew ?_ | refine blk_alloc ?_ _)); exact BK470.out) hb); have n3_ := Aside0.mk (below_step (by repeat (first | (with_reducible first | exact HB.out | apply below_alloc | apply pw_below_drewN | apply below_drew1 | refine below_set ?_ GE470.out) | exact HB.out)) hb); clear BK470; clear HB; have HO474 := n0_; have HO477 := n1_; have BK470 := n2_; have HB := n3_; clear n0_ n1_ n2_ n3_; (try clear hb); (try clear hb2); (try clear hk); (try clear hi); (try clear ho0); (try clear ho1); obtain ⟨Ao17, co17, eo17⟩ := Kd.S_slice HO474.out; subst eo17; obtain ⟨Ao18, co18, eo18⟩ := Kd.R_slice HO477.out; subst eo18) | ((with_reducible refine gate_callee (f := 32) rfl ?_); refine goesL_ (some 14) rfl rfl Try.func32 (by kernel_rfl) rfl #[.agg #[.slice Ao17 t472.length co17, .slice Ao18 t475.length co18]] rfl (by (try simp only [List.map_toArray, List.map_cons, List.map_nil]); first | done | rfl | (simp only [List.length_drop, List.length_take]; rfl)) ?_; (with_reducible refine (spec_AddsUpOk.calls k _ _ t472 _ _ t475 t478 _ ?side1 ?side2 ?side3 ?side4 A8.out).mono ?_); (case side1 => repeat (first | exact (Kd.S_reads' HO474.out).2.2 | (with_reducible refine Kd.C_alloc ?_ _) | (with_reducible refine Kd.C_drewN ?_ _) | (with_reducible refine Kd.C_drew ?_))); (case side2 => exact (Kd.S_reads' HO474.out).2.1); (case side3 => repeat (first | exact (Kd.R_reads' HO477.out).2.2 | (with_reducible refine Kd.C_alloc ?_ _) | (with_reducible refine Kd.C_drewN ?_ _) | (with_reducible refine Kd.C_drew ?_))); (case side4 => exact (Kd.R_reads' HO477.out).2.1); rintro e w19 ⟨rfl, hb⟩; refine ⟨_, rfl, ?_⟩; have n0_ := Aside0.mk (Kd.S_below (by (with_reducible repeat (first | apply Kd.S_alloc | apply Kd.S_drewN | apply Kd.S_drew)); exact HO474.out) hb); have n1_ := Aside0.mk (Kd.R_below (by (with_reducible repeat (first | apply Kd.R_alloc | apply Kd.R_drewN | apply Kd.R_drew)); exact HO477.out) hb); have n2_ := Aside0.mk (blk_below (g := gb470) (o := .cells #[.slice A0_0 l0_0.length c0_0, .slice A0_1 l0_1.length c0_1] 26 (0, 0)) (by (with_reducible repeat (first | refine blk_drewN ?_ _ | refine blk_drew ?_ | refine blk_alloc ?_ _)); exact BK470.out) hb); have n3_ := Aside0.mk (below_step (by repeat (first | (with_reducible first | exact HB.out | apply below_alloc | apply pw_below_drewN | apply below_drew1 | refine below_set ?_ GE470.out) | exact HB.out)) hb); clear HO474; clear HO477; clear BK470; clear HB; have HO474 := n0_; have HO477 := n1_; have BK470 := n2_; have HB := n3_; clear n0_ n1_ n2_ n3_; (try clear hb); (try clear hb2); (try clear hk); (try clear hi); have hcz20_0 : w19.cell? ⟨gb470, 0, none⟩ = some (.slice A0_0 l0_0.length c0_0) := (blk_cell BK470.out 0).trans rfl; have hcz20_1 : w19.cell? ⟨gb470, 1, none⟩ = some (.slice A0_1 l0_1.length c0_1) := (blk_cell BK470.out 1).trans rfl; have hfz20_0 := blk_frozen BK470.out 0; have hfz20_1 := blk_frozen BK470.out 1) | ((with_reducible refine gate_callee (f := 19) rfl ?_); refine goesL_ (some 16) rfl rfl Try.func19 (by kernel_rfl) rfl #[.agg #[.slice A0_0 l0_0.length c0_0, .slice A0_1 l0_1.length c0_1]] rfl (by (try simp only [List.map_toArray, List.map_cons, List.map_nil]); first | done | rfl | (simp only [List.length_drop, List.length_take]; rfl)) ?_; (with_reducible refine (laws_toLogic.calls k _ _ l0_0 _ _ l0_1 t479 t482 _ ?side1 ?side2 ?side3 ?side4 A9.out).mono ?_); (case side1 => repeat (first | exact (Kd.C_below HR0_0.out HB.out) | (with_reducible refine Kd.C_alloc ?_ _) | (with_reducible refine Kd.C_drewN ?_ _) | (with_reducible refine Kd.C_drew ?_))); (case side2 => exact HC0_0.out); (case side3 => repeat (first | exact (Kd.C_below HR0_1.out HB.out) | (with_reducible refine Kd.C_alloc ?_ _) | (with_reducible refine Kd.C_drewN ?_ _) | (with_reducible refine Kd.C_drew ?_))); (case side4 => exact HC0_1.out); rintro e w21 ⟨v480, v483, rfl, ho0, ho1, hb⟩; refine ⟨_, rfl, ?_⟩; have n0_ := Aside0.mk (Kd.S_mono (Kd.S_told (Kd.S_told (Kd.S_old (by (with_reducible repeat (first | apply Kd.S_alloc | apply Kd.S_drewN | apply Kd.S_drew)); exact HO474.out) hb) (Kd.S_base ho0)) (Kd.R_base ho1)) (fun _ h_ => h_.1)); have n1_ := Aside0.mk (Kd.R_elder' (by (with_reducible repeat (first | apply Kd.R_alloc | apply Kd.R_drewN | apply Kd.R_drew)); exact HO477.out) (Kd.R_base ho1) hb); have n2_ := Aside0.mk (Kd.S_lower (Kd.S_new' (Kd.S_new' ho0 (Kd.S_lt (by (with_reducible repeat (first | apply Kd.S_alloc | apply Kd.S_drewN | apply Kd.S_drew)); exact HO474.out))) (Kd.R_lt (by (with_reducible repeat (first | apply Kd.R_alloc | apply Kd.R_drewN | apply Kd.R_drew)); exact HO477.out))) (below_size (by repeat (first | (with_reducible first | exact HB.out | apply below_alloc | apply pw_below_drewN | apply below_drew1 | refine below_set ?_ GE470.out) | exact HB.out)))); have n3_ := Aside0.mk (Kd.R_lower (Kd.R_new' ho1 (Kd.R_lt (by (with_reducible repeat (first | apply Kd.R_alloc | apply Kd.R_drewN | apply Kd.R_drew)); exact HO477.out))) (below_size (by repeat (first | (with_reducible first | exact HB.out | apply below_alloc | apply pw_below_drewN | apply below_drew1 | refine below_set ?_ GE470.out) | exact HB.out)))); have n4_ := Aside0.mk (blk_below (g := gb470) (o := .cells #[.slice A0_0 l0_0.length c0_0, .slice A0_1 l0_1.length c0_1] 26 (0, 0)) (by (with_reducible repeat (first | refine blk_drewN ?_ _ | refine blk_drew ?_ | refine blk_alloc ?_ _)); exact BK470.out) hb); have n5_ := Aside0.mk (below_step (by repeat (first | (with_reducible first | exact HB.out | apply below_alloc | apply pw_below_drewN | apply below_drew1 | refine below_set ?_ GE470.out) | exact HB.out)) hb); clear HO474; clear HO477; clear BK470; clear HB; have HO474 := n0_; have HO477 := n1_; have HO481 := n2_; have HO484 := n3_; have BK470 := n4_; have HB := n5_; clear n0_ n1_ n2_ n3_ n4_ n5_; (try clear hb); (try clear hb2); (try clear hk); (try clear hi); (try clear ho0); (try clear ho1)) | ((with_reducible refine gate_dst (N := 5) rfl ?_); refine box_event ?hg (N := 5) ?hd (cs := #[.slice none 0 0, .slice none 0 0]) (t := 29) ?hr ?_; (case hd => rfl); (case hg => rfl); (case hr => first | (go_simp; done) | (go_simp; rfl)); intro gb485 hg w22 hbox hb; have n0_ := Aside0.mk (Kd.S_below (by (with_reducible repeat (first | apply Kd.S_alloc | apply Kd.S_drewN | apply Kd.S_drew)); exact HO474.out) hb); have n1_ := Aside0.mk (Kd.R_below (by (with_reducible repeat (first | apply Kd.R_alloc | apply Kd.R_drewN | apply Kd.R_drew)); exact HO477.out) hb); have n2_ := Aside0.mk (Kd.S_below (by (with_reducible repeat (first | apply Kd.S_alloc | apply Kd.S_drewN | apply Kd.S_drew)); exact HO481.out) hb); have n3_ := Aside0.mk (Kd.R_below (by (with_reducible repeat (first | apply Kd.R_alloc | apply Kd.R_drewN | apply Kd.R_drew)); exact HO484.out) hb); have n4_ := Aside0.mk (blk_below (g := gb470) (o := .cells #[.slice A0_0 l0_0.length c0_0, .slice A0_1 l0_1.length c0_1] 26 (0, 0)) (by (with_reducible repeat (first | refine blk_drewN ?_ _ | refine blk_drew ?_ | refine blk_alloc ?_ _)); exact BK470.out) hb); have n5_ := Aside0.mk (below_step (by repeat (first | (with_reducible first | exact HB.out | apply below_alloc | apply pw_below_drewN | apply below_drew1 | refine below_set ?_ GE470.out) | exact HB.out)) hb); have n6_ := Aside0.mk (hbox); have n7_ := Aside0.mk ((by rw [hg]; exact (below_size (by repeat (first | (with_reducible first | exact HB.out | apply below_alloc | apply pw_below_drewN | apply below_drew1 | refine below_set ?_ GE470.out) | exact HB.out))) : w.heap.size ≤ gb485)); have n8_ := Aside0.mk ((by rw [hg]; exact (below_size (by repeat (first | (with_reducible first | exact HB.out | apply below_alloc | apply pw_below_drewN | apply below_drew1 | refine below_set ?_ GE470.out) | exact HB.out))) : w.heap.size ≤ gb485)); have n9_ := Aside0.mk ((by rw [hg]; exact Nat.ne_of_lt (blk_lt (g := gb470) (o := .cells #[.slice A0_0 l0_0.length c0_0, .slice A0_1 l0_1.length c0_1] 26 (0, 0)) (by (with_reducible repeat (first | refine blk_drewN ?_ _ | refine blk_drew ?_ | refine blk_alloc ?_ _)); exact BK470.out)) : gb470 ≠ gb485)); have n10_ := Aside0.mk ((by rw [hg]; exact Nat.ne_of_gt (blk_lt (g := gb470) (o := .cells #[.slice A0_0 l0_0.length c0_0, .slice A0_1 l0_1.length c0_1] 26 (0, 0)) (by (with_reducible repeat (first | refine blk_drewN ?_ _ | refine blk_drew ?_ | refine blk_alloc ?_ _)); exact BK470.out)) : gb485 ≠ gb470)); clear HO474; clear HO477; clear HO481; clear HO484; clear BK470; clear HB; have HO474 := n0_; have HO477 := n1_; have HO481 := n2_; have HO484 := n3_; have BK470 := n4_; have HB := n5_; have BK485 := n6_; have GW485 := n7_; have GE485 := n8_; have NB470_485 := n9_; have NB485_470 := n10_; clear n0_ n1_ n2_ n3_ n4_ n5_ n6_ n7_ n8_ n9_ n10_; clear hb hbox hg; obtain ⟨Ao23, co23, eo23⟩ := Kd.S_slice HO481.out; subst eo23; have hnb24 := NB485_470.out; have hnc24 := NB470_485.out; have hcz25_0 : w22.cell? ⟨gb485, 0, none⟩ = some (.slice none 0 0) := (blk_cell BK485.out 0).trans rfl; have hcz25_1 : w22.cell? ⟨gb485, 1, none⟩ = some (.slice none 0 0) := (blk_cell BK485.out 1).trans rfl; have hfz25_0 := blk_frozen BK485.out 0; have hfz25_1 := blk_frozen BK485.out 1; obtain ⟨Ao26, co26, eo26⟩ := Kd.R_slice HO484.out; subst eo26) | ((with_reducible refine gate_callee (f := 33) rfl ?_); refine goesL_ (some 18) rfl rfl Try.func33 (by kernel_rfl) rfl #[.agg #[.slice Ao23 t479.length co23, .slice Ao26 t482.length co26]] rfl (by (try simp only [List.map_toArray, List.map_cons, List.map_nil]); first | done | rfl | (simp only [List.length_drop, List.length_take]; rfl)) ?_; (with_reducible refine (impl_AddsUpOk.calls _ _ t479 _ _ t482 t486 _ ?side1 ?side2 ?side3 ?side4 A10.out).mono ?_); (case side1 => refine (Kd.S_reads' (e := 24) (base := w.heap.size) (ok := fun k_ => ((some k_ ≠ (.slice Ao26 t482.length co26 : Value).ownBlock ∧ some k_ ≠ (.slice Ao17 t472.length co17 : Value).ownBlock) ∧ some k_ ≠ (.slice Ao18 t475.length co18 : Value).ownBlock)) (n := t479.length) (c := co23) ?_).2.2; exact (by (with_reducible repeat (first | apply Kd.S_alloc | apply Kd.S_drewN | apply Kd.S_drew)); exact (Kd.S_mono (Kd.S_far (p := ⟨gb485, 1, none⟩) (Kd.S_far (p := ⟨gb485, 0, none⟩) (Kd.S_types HO481.out BK485.out (by decide)) (fun _ hk => hk.2) (.slice Ao23 t479.length co23)) (fun _ hk => hk.2) (.slice Ao26 t482.length co26)) (fun _ h_ => h_.1)))); (case side2 => exact (Kd.S_reads' HO481.out).2.1); (case side3 => refine (Kd.R_reads' (e := 3) (base := w.heap.size) (ok := fun k_ => (True ∧ some k_ ≠ (.slice Ao18 t475.length co18 : Value).ownBlock)) (n := t482.length) (c := co26) ?_).2.2; exact (by (with_reducible repeat (first | apply Kd.R_alloc | apply Kd.R_drewN | apply Kd.R_drew)); exact (Kd.R_mono (Kd.R_far (p := ⟨gb485, 1, none⟩) (Kd.R_far (p := ⟨gb485, 0, none⟩) (Kd.R_types HO484.out BK485.out (by decide)) (fun _ hk => hk.2) (.slice Ao23 t479.length co23)) (fun _ hk => hk.2) (.slice Ao26 t482.length co26)) (fun _ h_ => h_.1)))); (case side4 => exact (Kd.R_reads' HO484.out).2.1); rintro e w27 ⟨rfl, hb⟩; refine ⟨_, rfl, ?_⟩; have n0_ := Aside0.mk (Kd.S_below (by (with_reducible repeat (first | apply Kd.S_alloc | apply Kd.S_drewN | apply Kd.S_drew)); exact (Kd.S_mono (Kd.S_far (p := ⟨gb485, 1, none⟩) (Kd.S_far (p := ⟨gb485, 0, none⟩) (Kd.S_types HO474.out BK485.out (by decide)) (fun _ hk => hk.2) (.slice Ao23 t479.length co23)) (fun _ hk => hk.2) (.slice Ao26 t482.length co26)) (fun _ h_ => h_.1))) hb); have n1_ := Aside0.mk (Kd.R_below (by (with_reducible repeat (first | apply Kd.R_alloc | apply Kd.R_drewN | apply Kd.R_drew)); exact (Kd.R_mono (Kd.R_far (p := ⟨gb485, 1, none⟩) (Kd.R_far (p := ⟨gb485, 0, none⟩) (Kd.R_types HO477.out BK485.out (by decide)) (fun _ hk => hk.2) (.slice Ao23 t479.length co23)) (fun _ hk => hk.2) (.slice Ao26 t482.length co26)) (fun _ h_ => h_.1))) hb); have n2_ := Aside0.mk (Kd.S_below (by (with_reducible repeat (first | apply Kd.S_alloc | apply Kd.S_drewN | apply Kd.S_drew)); exact (Kd.S_mono (Kd.S_far (p := ⟨gb485, 1, none⟩) (Kd.S_far (p := ⟨gb485, 0, none⟩) (Kd.S_types HO481.out BK485.out (by decide)) (fun _ hk => hk.2) (.slice Ao23 t479.length co23)) (fun _ hk => hk.2) (.slice Ao26 t482.length co26)) (fun _ h_ => h_.1))) hb); have n3_ := Aside0.mk (Kd.R_below (by (with_reducible repeat (first | apply Kd.R_alloc | apply Kd.R_drewN | apply Kd.R_drew)); exact (Kd.R_mono (Kd.R_far (p := ⟨gb485, 1, none⟩) (Kd.R_far (p := ⟨gb485, 0, none⟩) (Kd.R_types HO484.out BK485.out (by decide)) (fun _ hk => hk.2) (.slice Ao23 t479.length co23)) (fun _ hk => hk.2) (.slice Ao26 t482.length co26)) (fun _ h_ => h_.1))) hb); have n4_ := Aside0.mk (blk_below (g := gb470) (o := .cells #[.slice A0_0 l0_0.length c0_0, .slice A0_1 l0_1.length c0_1] 26 (0, 0)) (by (with_reducible repeat (first | refine blk_drewN ?_ _ | refine blk_drew ?_ | refine blk_alloc ?_ _)); refine blk_far ?_ NB470_485.out _; (with_reducible repeat (first | refine blk_drewN ?_ _ | refine blk_drew ?_ | refine blk_alloc ?_ _)); refine blk_far ?_ NB470_485.out _; (with_reducible repeat (first | refine blk_drewN ?_ _ | refine blk_drew ?_ | refine blk_alloc ?_ _)); exact BK470.out) hb); have n5_ := Aside0.mk (blk_below (g := gb485) (o := .cells #[.slice Ao23 t479.length co23, .slice Ao26 t482.length co26] 29 (0, 0)) (by (with_reducible repeat (first | refine blk_drewN ?_ _ | refine blk_drew ?_ | refine blk_alloc ?_ _)); refine blk_put (cs := #[.slice Ao23 t479.length co23, .slice none 0 0]) ?_ 1 _ rfl; (with_reducible repeat (first | refine blk_drewN ?_ _ | refine blk_drew ?_ | refine blk_alloc ?_ _)); refine blk_put (cs := #[.slice none 0 0, .slice none 0 0]) ?_ 0 _ rfl; (with_reducible repeat (first | refine blk_drewN ?_ _ | refine blk_drew ?_ | refine blk_alloc ?_ _)); exact BK485.out) hb); have n6_ := Aside0.mk (below_step (by repeat (first | (with_reducible first | exact HB.out | apply below_alloc | apply pw_below_drewN | apply below_drew1 | refine below_set ?_ GE470.out | refine below_set ?_ GE485.out) | exact HB.out)) hb); clear HO474; clear HO477; clear HO481; clear HO484; clear BK470; clear BK485; clear HB; have HO474 := n0_; have HO477 := n1_; have HO481 := n2_; have HO484 := n3_; have BK470 := n4_; have BK485 := n5_; have HB := n6_; clear n0_ n1_ n2_ n3_ n4_ n5_ n6_; (try clear hb); (try clear hb2); (try clear hk); (try clear hi)))
      go_ret
      exact ⟨by first | rfl | (simp [errW_none, errW_some] <;> rfl) | (simp [*, errW_none, errW_some] <;> rfl), by repeat (first | (with_reducible first | exact HB.out | apply below_alloc | apply pw_below_drewN | apply below_drew1 | refine below_set ?_ GE470.out | refine below_set ?_ GE485.out) | exact HB.out)⟩
    · rw [if_neg c11] at H
      have c11b0 : (t486 != t478) = false := by simpa using c11
      (try (have c11b1 : decide (t486 = t478) = true := by simpa using c11))
      (try (have c11b2 : (t486 == t478) = true := by simpa using c11))
      clear c11
      replace H := Option.bind_eq_some_iff.mp H
      obtain ⟨⟨t487, t490⟩, A280, H⟩ := H
      replace H : ((laws_eqLogic.f k t479 t482 t487 t490).bind fun t493 => (if t493 = true then (some true) else (some false))) = some r := H
      have A28 := Aside0.mk A280
      clear A280
      replace H := Option.bind_eq_some_iff.mp H
      obtain ⟨t493, A290, H⟩ := H
      replace H : (if t493 = true then (some true) else (some false)) = some r := H
      have A29 := Aside0.mk A290
      clear A290
      by_cases c30 : t493 = true
      · subst c30
        have H1 : (some true) = some r := by rw [if_pos rfl] at H; exact H
        clear H
        have H := H1
        clear H1
        obtain rfl := Option.some.inj H
        go_enter Try.func10, Try.ntmps10
        try go_wp2_with (first | ((with_reducible refine gate_dst (N := 1) rfl ?_); refine box_event ?hg (N := 1) ?hd (cs := #[.slice A0_0 l0_0.length c0_0, .slice A0_1 l0_1.length c0_1]) (t := 26) ?hr ?_; (case hd => rfl); (case hg => rfl); (case hr => first | (go_simp; done) | (go_simp; rfl)); intro gb470 hg w31 hbox hb; have n0_ := Aside0.mk (below_step (by repeat (first | (with_reducible first | exact HB.out | apply below_alloc | apply pw_below_drewN | apply below_drew1) | exact HB.out)) hb); have n1_ := Aside0.mk (hbox); have n2_ := Aside0.mk ((by rw [hg]; exact (below_size (by repeat (first | (with_reducible first | exact HB.out | apply below_alloc | apply pw_below_drewN | apply below_drew1) | exact HB.out))) : w.heap.size ≤ gb470)); have n3_ := Aside0.mk ((by rw [hg]; exact (below_size (by repeat (first | (with_reducible first | exact HB.out | apply below_alloc | apply pw_below_drewN | apply below_drew1) | exact HB.out))) : w.heap.size ≤ gb470)); clear HB; have HB := n0_; have BK470 := n1_; have GW470 := n2_; have GE470 := n3_; clear n0_ n1_ n2_ n3_; clear hb hbox hg; have hcz32_0 : w31.cell? ⟨gb470, 0, none⟩ = some (.slice A0_0 l0_0.length c0_0) := (blk_cell BK470.out 0).trans rfl; have hcz32_1 : w31.cell? ⟨gb470, 1, none⟩ = some (.slice A0_1 l0_1.length c0_1) := (blk_cell BK470.out 1).trans rfl; have hfz32_0 := blk_frozen BK470.out 0; have hfz32_1 := blk_frozen BK470.out 1) | ((with_reducible refine gate_callee (f := 17) rfl ?_); refine goesL_ (some 9) rfl rfl Try.func17 (by kernel_rfl) rfl #[.agg #[.slice A0_0 l0_0.length c0_0, .slice A0_1 l0_1.length c0_1], .int .i64 1048576] rfl (by (try simp only [List.map_toArray, List.map_cons, List.map_nil]); first | done | rfl | (simp only [List.length_drop, List.length_take]; rfl)) ?_; (with_reducible refine (laws_szLogic.calls k _ _ l0_0 _ _ l0_1 1048576 t471 _ ?side1 ?side2 ?side3 ?side4 A2.out).mono ?_); (case side1 => repeat (first | exact (Kd.C_below HR0_0.out HB.out) | (with_reducible refine Kd.C_alloc ?_ _) | (with_reducible refine Kd.C_drewN ?_ _) | (with_reducible refine Kd.C_drew ?_))); (case side2 => exact HC0_0.out); (case side3 => repeat (first | exact (Kd.C_below HR0_1.out HB.out) | (with_reducible refine Kd.C_alloc ?_ _) | (with_reducible refine Kd.C_drewN ?_ _) | (with_reducible refine Kd.C_drew ?_))); (case side4 => exact HC0_1.out); rintro e w33 ⟨rfl, hb⟩; refine ⟨_, rfl, ?_⟩; have n0_ := Aside0.mk (blk_below (g := gb470) (o := .cells #[.slice A0_0 l0_0.length c0_0, .slice A0_1 l0_1.length c0_1] 26 (0, 0)) (by (with_reducible repeat (first | refine blk_drewN ?_ _ | refine blk_drew ?_ | refine blk_alloc ?_ _)); exact BK470.out) hb); have n1_ := Aside0.mk (below_step (by repeat (first | (with_reducible first | exact HB.out | apply below_alloc | apply pw_below_drewN | apply below_drew1 | refine below_set ?_ GE470.out) | exact HB.out)) hb); clear BK470; clear HB; have BK470 := n0_; have HB := n1_; clear n0_ n1_; (try clear hb); (try clear hb2); (try clear hk); (try clear hi); have hcz34_0 : w33.cell? ⟨gb470, 0, none⟩ = some (.slice A0_0 l0_0.length c0_0) := (blk_cell BK470.out 0).trans rfl; have hcz34_1 : w33.cell? ⟨gb470, 1, none⟩ = some (.slice A0_1 l0_1.length c0_1) := (blk_cell BK470.out 1).trans rfl; have hfz34_0 := blk_frozen BK470.out 0; have hfz34_1 := blk_frozen BK470.out 1) | ((with_reducible refine gate_callee (f := 19) rfl ?_); refine goesL_ (some 13) rfl rfl Try.func19 (by kernel_rfl) rfl #[.agg #[.slice A0_0 l0_0.length c0_0, .slice A0_1 l0_1.length c0_1]] rfl (by (try simp only [List.map_toArray, List.map_cons, List.map_nil]); first | done | rfl | (simp only [List.length_drop, List.length_take]; rfl)) ?_; (with_reducible refine (laws_toLogic.calls k _ _ l0_0 _ _ l0_1 t472 t475 _ ?side1 ?side2 ?side3 ?side4 A7.out).mono ?_); (case side1 => repeat (first | exact (Kd.C_below HR0_0.out HB.out) | (with_reducible refine Kd.C_alloc ?_ _) | (with_reducible refine Kd.C_drewN ?_ _) | (with_reducible refine Kd.C_drew ?_))); (case side2 => exact HC0_0.out); (case side3 => repeat (first | exact (Kd.C_below HR0_1.out HB.out) | (with_reducible refine Kd.C_alloc ?_ _) | (with_reducible refine Kd.C_drewN ?_ _) | (with_reducible refine Kd.C_drew ?_))); (case side4 => exact HC0_1.out); rintro e w35 ⟨v473, v476, rfl, ho0, ho1, hb⟩; refine ⟨_, rfl, ?_⟩; have n0_ := Aside0.mk (Kd.S_lower ho0 (below_size (by repeat (first | (with_reducible first | exact HB.out | apply below_alloc | apply pw_below_drewN | apply below_drew1 | refine below_set ?_ GE470.out) | exact HB.out)))); have n1_ := Aside0.mk (Kd.R_lower ho1 (below_size (by repeat (first | (with_reducible first | exact HB.out | apply below_alloc | apply pw_below_drewN | apply below_drew1 | refine below_set ?_ GE470.out) | exact HB.out)))); have n2_ := Aside0.mk (blk_below (g := gb470) (o := .cells #[.slice A0_0 l0_0.length c0_0, .slice A0_1 l0_1.length c0_1] 26 (0, 0)) (by (with_reducible repeat (first | refine blk_drewN ?_ _ | refine blk_drew ?_ | refine blk_alloc ?_ _)); exact BK470.out) hb); have n3_ := Aside0.mk (below_step (by repeat (first | (with_reducible first | exact HB.out | apply below_alloc | apply pw_below_drewN | apply below_drew1 | refine below_set ?_ GE470.out) | exact HB.out)) hb); clear BK470; clear HB; have HO474 := n0_; have HO477 := n1_; have BK470 := n2_; have HB := n3_; clear n0_ n1_ n2_ n3_; (try clear hb); (try clear hb2); (try clear hk); (try clear hi); (try clear ho0); (try clear ho1); obtain ⟨Ao36, co36, eo36⟩ := Kd.S_slice HO474.out; subst eo36; obtain ⟨Ao37, co37, eo37⟩ := Kd.R_slice HO477.out; subst eo37) | ((with_reducible refine gate_callee (f := 32) rfl ?_); refine goesL_ (some 14) rfl rfl Try.func32 (by kernel_rfl) rfl #[.agg #[.slice Ao36 t472.length co36, .slice Ao37 t475.length co37]] rfl (by (try simp only [List.map_toArray, List.map_cons, List.map_nil]); first | done | rfl | (simp only [List.length_drop, List.length_take]; rfl)) ?_; (with_reducible refine (spec_AddsUpOk.calls k _ _ t472 _ _ t475 t478 _ ?side1 ?side2 ?side3 ?side4 A8.out).mono ?_); (case side1 => repeat (first | exact (Kd.S_reads' HO474.out).2.2 | (with_reducible refine Kd.C_alloc ?_ _) | (with_reducible refine Kd.C_drewN ?_ _) | (with_reducible refine Kd.C_drew ?_))); (case side2 => exact (Kd.S_reads' HO474.out).2.1); (case side3 => repeat (first | exact (Kd.R_reads' HO477.out).2.2 | (with_reducible refine Kd.C_alloc ?_ _) | (with_reducible refine Kd.C_drewN ?_ _) | (with_reducible refine Kd.C_drew ?_))); (case side4 => exact (Kd.R_reads' HO477.out).2.1); rintro e w38 ⟨rfl, hb⟩; refine ⟨_, rfl, ?_⟩; have n0_ := Aside0.mk (Kd.S_below (by (with_reducible repeat (first | apply Kd.S_alloc | apply Kd.S_drewN | apply Kd.S_drew)); exact HO474.out) hb); have n1_ := Aside0.mk (Kd.R_below (by (with_reducible repeat (first | apply Kd.R_alloc | apply Kd.R_drewN | apply Kd.R_drew)); exact HO477.out) hb); have n2_ := Aside0.mk (blk_below (g := gb470) (o := .cells #[.slice A0_0 l0_0.length c0_0, .slice A0_1 l0_1.length c0_1] 26 (0, 0)) (by (with_reducible repeat (first | refine blk_drewN ?_ _ | refine blk_drew ?_ | refine blk_alloc ?_ _)); exact BK470.out) hb); have n3_ := Aside0.mk (below_step (by repeat (first | (with_reducible first | exact HB.out | apply below_alloc | apply pw_below_drewN | apply below_drew1 | refine below_set ?_ GE470.out) | exact HB.out)) hb); clear HO474; clear HO477; clear BK470; clear HB; have HO474 := n0_; have HO477 := n1_; have BK470 := n2_; have HB := n3_; clear n0_ n1_ n2_ n3_; (try clear hb); (try clear hb2); (try clear hk); (try clear hi); have hcz39_0 : w38.cell? ⟨gb470, 0, none⟩ = some (.slice A0_0 l0_0.length c0_0) := (blk_cell BK470.out 0).trans rfl; have hcz39_1 : w38.cell? ⟨gb470, 1, none⟩ = some (.slice A0_1 l0_1.length c0_1) := (blk_cell BK470.out 1).trans rfl; have hfz39_0 := blk_frozen BK470.out 0; have hfz39_1 := blk_frozen BK470.out 1) | ((with_reducible refine gate_callee (f := 19) rfl ?_); refine goesL_ (some 16) rfl rfl Try.func19 (by kernel_rfl) rfl #[.agg #[.slice A0_0 l0_0.length c0_0, .slice A0_1 l0_1.length c0_1]] rfl (by (try simp only [List.map_toArray, List.map_cons, List.map_nil]); first | done | rfl | (simp only [List.length_drop, List.length_take]; rfl)) ?_; (with_reducible refine (laws_toLogic.calls k _ _ l0_0 _ _ l0_1 t479 t482 _ ?side1 ?side2 ?side3 ?side4 A9.out).mono ?_); (case side1 => repeat (first | exact (Kd.C_below HR0_0.out HB.out) | (with_reducible refine Kd.C_alloc ?_ _) | (with_reducible refine Kd.C_drewN ?_ _) | (with_reducible refine Kd.C_drew ?_))); (case side2 => exact HC0_0.out); (case side3 => repeat (first | exact (Kd.C_below HR0_1.out HB.out) | (with_reducible refine Kd.C_alloc ?_ _) | (with_reducible refine Kd.C_drewN ?_ _) | (with_reducible refine Kd.C_drew ?_))); (case side4 => exact HC0_1.out); rintro e w40 ⟨v480, v483, rfl, ho0, ho1, hb⟩; refine ⟨_, rfl, ?_⟩; have n0_ := Aside0.mk (Kd.S_mono (Kd.S_told (Kd.S_told (Kd.S_old (by (with_reducible repeat (first | apply Kd.S_alloc | apply Kd.S_drewN | apply Kd.S_drew)); exact HO474.out) hb) (Kd.S_base ho0)) (Kd.R_base ho1)) (fun _ h_ => h_.1)); have n1_ := Aside0.mk (Kd.R_elder' (by (with_reducible repeat (first | apply Kd.R_alloc | apply Kd.R_drewN | apply Kd.R_drew)); exact HO477.out) (Kd.R_base ho1) hb); have n2_ := Aside0.mk (Kd.S_lower (Kd.S_new' (Kd.S_new' ho0 (Kd.S_lt (by (with_reducible repeat (first | apply Kd.S_alloc | apply Kd.S_drewN | apply Kd.S_drew)); exact HO474.out))) (Kd.R_lt (by (with_reducible repeat (first | apply Kd.R_alloc | apply Kd.R_drewN | apply Kd.R_drew)); exact HO477.out))) (below_size (by repeat (first | (with_reducible first | exact HB.out | apply below_alloc | apply pw_below_drewN | apply below_drew1 | refine below_set ?_ GE470.out) | exact HB.out)))); have n3_ := Aside0.mk (Kd.R_lower (Kd.R_new' ho1 (Kd.R_lt (by (with_reducible repeat (first | apply Kd.R_alloc | apply Kd.R_drewN | apply Kd.R_drew)); exact HO477.out))) (below_size (by repeat (first | (with_reducible first | exact HB.out | apply below_alloc | apply pw_below_drewN | apply below_drew1 | refine below_set ?_ GE470.out) | exact HB.out)))); have n4_ := Aside0.mk (blk_below (g := gb470) (o := .cells #[.slice A0_0 l0_0.length c0_0, .slice A0_1 l0_1.length c0_1] 26 (0, 0)) (by (with_reducible repeat (first | refine blk_drewN ?_ _ | refine blk_drew ?_ | refine blk_alloc ?_ _)); exact BK470.out) hb); have n5_ := Aside0.mk (below_step (by repeat (first | (with_reducible first | exact HB.out | apply below_alloc | apply pw_below_drewN | apply below_drew1 | refine below_set ?_ GE470.out) | exact HB.out)) hb); clear HO474; clear HO477; clear BK470; clear HB; have HO474 := n0_; have HO477 := n1_; have HO481 := n2_; have HO484 := n3_; have BK470 := n4_; have HB := n5_; clear n0_ n1_ n2_ n3_ n4_ n5_; (try clear hb); (try clear hb2); (try clear hk); (try clear hi); (try clear ho0); (try clear ho1)) | ((with_reducible refine gate_dst (N := 5) rfl ?_); refine box_event ?hg (N := 5) ?hd (cs := #[.slice none 0 0, .slice none 0 0]) (t := 29) ?hr ?_; (case hd => rfl); (case hg => rfl); (case hr => first | (go_simp; done) | (go_simp; rfl)); intro gb485 hg w41 hbox hb; have n0_ := Aside0.mk (Kd.S_below (by (with_reducible repeat (first | apply Kd.S_alloc | apply Kd.S_drewN | apply Kd.S_drew)); exact HO474.out) hb); have n1_ := Aside0.mk (Kd.R_below (by (with_reducible repeat (first | apply Kd.R_alloc | apply Kd.R_drewN | apply Kd.R_drew)); exact HO477.out) hb); have n2_ := Aside0.mk (Kd.S_below (by (with_reducible repeat (first | apply Kd.S_alloc | apply Kd.S_drewN | apply Kd.S_drew)); exact HO481.out) hb); have n3_ := Aside0.mk (Kd.R_below (by (with_reducible repeat (first | apply Kd.R_alloc | apply Kd.R_drewN | apply Kd.R_drew)); exact HO484.out) hb); have n4_ := Aside0.mk (blk_below (g := gb470) (o := .cells #[.slice A0_0 l0_0.length c0_0, .slice A0_1 l0_1.length c0_1] 26 (0, 0)) (by (with_reducible repeat (first | refine blk_drewN ?_ _ | refine blk_drew ?_ | refine blk_alloc ?_ _)); exact BK470.out) hb); have n5_ := Aside0.mk (below_step (by repeat (first | (with_reducible first | exact HB.out | apply below_alloc | apply pw_below_drewN | apply below_drew1 | refine below_set ?_ GE470.out) | exact HB.out)) hb); have n6_ := Aside0.mk (hbox); have n7_ := Aside0.mk ((by rw [hg]; exact (below_size (by repeat (first | (with_reducible first | exact HB.out | apply below_alloc | apply pw_below_drewN | apply below_drew1 | refine below_set ?_ GE470.out) | exact HB.out))) : w.heap.size ≤ gb485)); have n8_ := Aside0.mk ((by rw [hg]; exact (below_size (by repeat (first | (with_reducible first | exact HB.out | apply below_alloc | apply pw_below_drewN | apply below_drew1 | refine below_set ?_ GE470.out) | exact HB.out))) : w.heap.size ≤ gb485)); have n9_ := Aside0.mk ((by rw [hg]; exact Nat.ne_of_lt (blk_lt (g := gb470) (o := .cells #[.slice A0_0 l0_0.length c0_0, .slice A0_1 l0_1.length c0_1] 26 (0, 0)) (by (with_reducible repeat (first | refine blk_drewN ?_ _ | refine blk_drew ?_ | refine blk_alloc ?_ _)); exact BK470.out)) : gb470 ≠ gb485)); have n10_ := Aside0.mk ((by rw [hg]; exact Nat.ne_of_gt (blk_lt (g := gb470) (o := .cells #[.slice A0_0 l0_0.length c0_0, .slice A0_1 l0_1.length c0_1] 26 (0, 0)) (by (with_reducible repeat (first | refine blk_drewN ?_ _ | refine blk_drew ?_ | refine blk_alloc ?_ _)); exact BK470.out)) : gb485 ≠ gb470)); clear HO474; clear HO477; clear HO481; clear HO484; clear BK470; clear HB; have HO474 := n0_; have HO477 := n1_; have HO481 := n2_; have HO484 := n3_; have BK470 := n4_; have HB := n5_; have BK485 := n6_; have GW485 := n7_; have GE485 := n8_; have NB470_485 := n9_; have NB485_470 := n10_; clear n0_ n1_ n2_ n3_ n4_ n5_ n6_ n7_ n8_ n9_ n10_; clear hb hbox hg; obtain ⟨Ao42, co42, eo42⟩ := Kd.S_slice HO481.out; subst eo42; have hnb43 := NB485_470.out; have hnc43 := NB470_485.out; have hcz44_0 : w41.cell? ⟨gb485, 0, none⟩ = some (.slice none 0 0) := (blk_cell BK485.out 0).trans rfl; have hcz44_1 : w41.cell? ⟨gb485, 1, none⟩ = some (.slice none 0 0) := (blk_cell BK485.out 1).trans rfl; have hfz44_0 := blk_frozen BK485.out 0; have hfz44_1 := blk_frozen BK485.out 1; obtain ⟨Ao45, co45, eo45⟩ := Kd.R_slice HO484.out; subst eo45) | ((with_reducible refine gate_callee (f := 33) rfl ?_); refine goesL_ (some 18) rfl rfl Try.func33 (by kernel_rfl) rfl #[.agg #[.slice Ao42 t479.length co42, .slice Ao45 t482.length co45]] rfl (by (try simp only [List.map_toArray, List.map_cons, List.map_nil]); first | done | rfl | (simp only [List.length_drop, List.length_take]; rfl)) ?_; (with_reducible refine (impl_AddsUpOk.calls _ _ t479 _ _ t482 t486 _ ?side1 ?side2 ?side3 ?side4 A10.out).mono ?_); (case side1 => refine (Kd.S_reads' (e := 24) (base := w.heap.size) (ok := fun k_ => ((some k_ ≠ (.slice Ao45 t482.length co45 : Value).ownBlock ∧ some k_ ≠ (.slice Ao36 t472.length co36 : Value).ownBlock) ∧ some k_ ≠ (.slice Ao37 t475.length co37 : Value).ownBlock)) (n := t479.length) (c := co42) ?_).2.2; exact (by (with_reducible repeat (first | apply Kd.S_alloc | apply Kd.S_drewN | apply Kd.S_drew)); exact (Kd.S_mono (Kd.S_far (p := ⟨gb485, 1, none⟩) (Kd.S_far (p := ⟨gb485, 0, none⟩) (Kd.S_types HO481.out BK485.out (by decide)) (fun _ hk => hk.2) (.slice Ao42 t479.length co42)) (fun _ hk => hk.2) (.slice Ao45 t482.length co45)) (fun _ h_ => h_.1)))); (case side2 => exact (Kd.S_reads' HO481.out).2.1); (case side3 => refine (Kd.R_reads' (e := 3) (base := w.heap.size) (ok := fun k_ => (True ∧ some k_ ≠ (.slice Ao37 t475.length co37 : Value).ownBlock)) (n := t482.length) (c := co45) ?_).2.2; exact (by (with_reducible repeat (first | apply Kd.R_alloc | apply Kd.R_drewN | apply Kd.R_drew)); exact (Kd.R_mono (Kd.R_far (p := ⟨gb485, 1, none⟩) (Kd.R_far (p := ⟨gb485, 0, none⟩) (Kd.R_types HO484.out BK485.out (by decide)) (fun _ hk => hk.2) (.slice Ao42 t479.length co42)) (fun _ hk => hk.2) (.slice Ao45 t482.length co45)) (fun _ h_ => h_.1)))); (case side4 => exact (Kd.R_reads' HO484.out).2.1); rintro e w46 ⟨rfl, hb⟩; refine ⟨_, rfl, ?_⟩; have n0_ := Aside0.mk (Kd.S_below (by (with_reducible repeat (first | apply Kd.S_alloc | apply Kd.S_drewN | apply Kd.S_drew)); exact (Kd.S_mono (Kd.S_far (p := ⟨gb485, 1, none⟩) (Kd.S_far (p := ⟨gb485, 0, none⟩) (Kd.S_types HO474.out BK485.out (by decide)) (fun _ hk => hk.2) (.slice Ao42 t479.length co42)) (fun _ hk => hk.2) (.slice Ao45 t482.length co45)) (fun _ h_ => h_.1))) hb); have n1_ := Aside0.mk (Kd.R_below (by (with_reducible repeat (first | apply Kd.R_alloc | apply Kd.R_drewN | apply Kd.R_drew)); exact (Kd.R_mono (Kd.R_far (p := ⟨gb485, 1, none⟩) (Kd.R_far (p := ⟨gb485, 0, none⟩) (Kd.R_types HO477.out BK485.out (by decide)) (fun _ hk => hk.2) (.slice Ao42 t479.length co42)) (fun _ hk => hk.2) (.slice Ao45 t482.length co45)) (fun _ h_ => h_.1))) hb); have n2_ := Aside0.mk (Kd.S_below (by (with_reducible repeat (first | apply Kd.S_alloc | apply Kd.S_drewN | apply Kd.S_drew)); exact (Kd.S_mono (Kd.S_far (p := ⟨gb485, 1, none⟩) (Kd.S_far (p := ⟨gb485, 0, none⟩) (Kd.S_types HO481.out BK485.out (by decide)) (fun _ hk => hk.2) (.slice Ao42 t479.length co42)) (fun _ hk => hk.2) (.slice Ao45 t482.length co45)) (fun _ h_ => h_.1))) hb); have n3_ := Aside0.mk (Kd.R_below (by (with_reducible repeat (first | apply Kd.R_alloc | apply Kd.R_drewN | apply Kd.R_drew)); exact (Kd.R_mono (Kd.R_far (p := ⟨gb485, 1, none⟩) (Kd.R_far (p := ⟨gb485, 0, none⟩) (Kd.R_types HO484.out BK485.out (by decide)) (fun _ hk => hk.2) (.slice Ao42 t479.length co42)) (fun _ hk => hk.2) (.slice Ao45 t482.length co45)) (fun _ h_ => h_.1))) hb); have n4_ := Aside0.mk (blk_below (g := gb470) (o := .cells #[.slice A0_0 l0_0.length c0_0, .slice A0_1 l0_1.length c0_1] 26 (0, 0)) (by (with_reducible repeat (first | refine blk_drewN ?_ _ | refine blk_drew ?_ | refine blk_alloc ?_ _)); refine blk_far ?_ NB470_485.out _; (with_reducible repeat (first | refine blk_drewN ?_ _ | refine blk_drew ?_ | refine blk_alloc ?_ _)); refine blk_far ?_ NB470_485.out _; (with_reducible repeat (first | refine blk_drewN ?_ _ | refine blk_drew ?_ | refine blk_alloc ?_ _)); exact BK470.out) hb); have n5_ := Aside0.mk (blk_below (g := gb485) (o := .cells #[.slice Ao42 t479.length co42, .slice Ao45 t482.length co45] 29 (0, 0)) (by (with_reducible repeat (first | refine blk_drewN ?_ _ | refine blk_drew ?_ | refine blk_alloc ?_ _)); refine blk_put (cs := #[.slice Ao42 t479.length co42, .slice none 0 0]) ?_ 1 _ rfl; (with_reducible repeat (first | refine blk_drewN ?_ _ | refine blk_drew ?_ | refine blk_alloc ?_ _)); refine blk_put (cs := #[.slice none 0 0, .slice none 0 0]) ?_ 0 _ rfl; (with_reducible repeat (first | refine blk_drewN ?_ _ | refine blk_drew ?_ | refine blk_alloc ?_ _)); exact BK485.out) hb); have n6_ := Aside0.mk (below_step (by repeat (first | (with_reducible first | exact HB.out | apply below_alloc | apply pw_below_drewN | apply below_drew1 | refine below_set ?_ GE470.out | refine below_set ?_ GE485.out) | exact HB.out)) hb); clear HO474; clear HO477; clear HO481; clear HO484; clear BK470; clear BK485; clear HB; have HO474 := n0_; have HO477 := n1_; have HO481 := n2_; have HO484 := n3_; have BK470 := n4_; have BK485 := n5_; have HB := n6_; clear n0_ n1_ n2_ n3_ n4_ n5_ n6_; (try clear hb); (try clear hb2); (try clear hk); (try clear hi)))
        have n0_ := Aside0.mk (Kd.S_drew HO474.out)
        have n1_ := Aside0.mk (Kd.R_drew HO477.out)
        have n2_ := Aside0.mk (Kd.S_drew HO481.out)
        have n3_ := Aside0.mk (Kd.R_drew HO484.out)
        have n4_ := Aside0.mk (blk_drew BK470.out)
        have n5_ := Aside0.mk (blk_drew BK485.out)
        have n6_ := Aside0.mk (below_drew1 HB.out)
        clear HO474
        clear HO477
        clear HO481
        clear HO484
        clear BK470
        clear BK485
        clear HB
        have HO474 := n0_
        have HO477 := n1_
        have HO481 := n2_
        have HO484 := n3_
        have BK470 := n4_
        have BK485 := n5_
        have HB := n6_
        clear n0_ n1_ n2_ n3_ n4_ n5_ n6_
        refine start_ (n := 5) (S := fun w' => w'.cell? ⟨gb485, 0, none⟩ = some (.slice Ao42 t479.length co42) ∧ w'.cell? ⟨gb485, 1, none⟩ = some (.slice Ao45 t482.length co45) ∧ w'.cell? ⟨gb470, 0, none⟩ = some (.slice A0_0 l0_0.length c0_0) ∧ w'.cell? ⟨gb470, 1, none⟩ = some (.slice A0_1 l0_1.length c0_1)) (ds := []) #[false, false, false, false, false] (by kernel_rfl) rfl rfl ⟨(blk_cell BK485.out 0).trans rfl, (blk_cell BK485.out 1).trans rfl, (blk_cell BK470.out 0).trans rfl, (blk_cell BK470.out 1).trans rfl⟩ (fun hHeld => ?_)
        generalize w46.drew = w47 at HO474 HO477 HO481 HO484 BK470 BK485 HB hHeld ⊢
        refine take_ (i := 0) (N := some 22) (v := ?_) (a' := ?_) #[true, false, false, false, false] rfl rfl (by kernel_rfl) (fun _ _ _ h => h) (Or.inl ⟨by rfl, ?_⟩) hHeld ?_ ?_
        rotate_left
        · rintro w' ⟨s0, s1, s2, s3⟩
          go_simp
          with_reducible rfl
        rotate_left
        · simp only [Act.put, List.setIfInBounds_toArray, List.set_cons_zero, List.set_cons_succ, i64_w, i32_w]
          rfl
        refine take_ (i := 1) (N := some 23) (v := ?_) (a' := ?_) #[true, true, false, false, false] rfl rfl (by kernel_rfl) (fun _ _ _ h => h) (Or.inl ⟨by rfl, ?_⟩) hHeld ?_ ?_
        rotate_left
        · rintro w' ⟨s0, s1, s2, s3⟩
          go_simp
          with_reducible rfl
        rotate_left
        · simp only [Act.put, List.setIfInBounds_toArray, List.set_cons_zero, List.set_cons_succ, i64_w, i32_w]
          rfl
        refine one_ (i := 2) (N := some 24) #[true, true, true, false, false] rfl rfl (by kernel_rfl) (by decide) (fun K hK => ?_)
        refine goes_ Try.func19 (by kernel_rfl) rfl #[.agg #[.slice A0_0 l0_0.length c0_0, .slice A0_1 l0_1.length c0_1]] (by rfl) rfl rfl (by (try simp only [List.map_toArray, List.map_cons, List.map_nil]); first | done | rfl | (simp only [List.length_drop, List.length_take]; rfl)) ?_
        with_reducible refine (laws_toLogic.calls k _ _ l0_0 _ _ l0_1 t487 t490 _ ?side1 ?side2 ?side3 ?side4 A28.out).mono ?_
        (case side1 => repeat (first | exact (Kd.C_below HR0_0.out HB.out) | (with_reducible refine Kd.C_alloc ?_ _) | (with_reducible refine Kd.C_drewN ?_ _) | (with_reducible refine Kd.C_drew ?_)))
        (case side2 => exact HC0_0.out)
        (case side3 => repeat (first | exact (Kd.C_below HR0_1.out HB.out) | (with_reducible refine Kd.C_alloc ?_ _) | (with_reducible refine Kd.C_drewN ?_ _) | (with_reducible refine Kd.C_drew ?_)))
        (case side4 => exact HC0_1.out)
        rintro e w48 ⟨v488, v491, rfl, ho0, ho1, hb⟩
        refine ⟨_, rfl, ?_⟩
        have n0_ := Aside0.mk (Kd.S_mono (Kd.S_told (Kd.S_told (Kd.S_old (by (with_reducible repeat (first | apply Kd.S_alloc | apply Kd.S_drewN | apply Kd.S_drew)); exact HO474.out) hb) (Kd.S_base ho0)) (Kd.R_base ho1)) (fun _ h_ => h_.1))
        have n1_ := Aside0.mk (Kd.R_elder' (by (with_reducible repeat (first | apply Kd.R_alloc | apply Kd.R_drewN | apply Kd.R_drew)); exact HO477.out) (Kd.R_base ho1) hb)
        have n2_ := Aside0.mk (Kd.S_mono (Kd.S_told (Kd.S_told (Kd.S_old (by (with_reducible repeat (first | apply Kd.S_alloc | apply Kd.S_drewN | apply Kd.S_drew)); exact HO481.out) hb) (Kd.S_base ho0)) (Kd.R_base ho1)) (fun _ h_ => h_.1))
        have n3_ := Aside0.mk (Kd.R_elder' (by (with_reducible repeat (first | apply Kd.R_alloc | apply Kd.R_drewN | apply Kd.R_drew)); exact HO484.out) (Kd.R_base ho1) hb)
        have n4_ := Aside0.mk (Kd.S_lower (Kd.S_new' (Kd.S_new' (Kd.S_new' (Kd.S_new' ho0 (Kd.S_lt (by (with_reducible repeat (first | apply Kd.S_alloc | apply Kd.S_drewN | apply Kd.S_drew)); exact HO474.out))) (Kd.R_lt (by (with_reducible repeat (first | apply Kd.R_alloc | apply Kd.R_drewN | apply Kd.R_drew)); exact HO477.out))) (Kd.S_lt (by (with_reducible repeat (first | apply Kd.S_alloc | apply Kd.S_drewN | apply Kd.S_drew)); exact HO481.out))) (Kd.R_lt (by (with_reducible repeat (first | apply Kd.R_alloc | apply Kd.R_drewN | apply Kd.R_drew)); exact HO484.out))) (below_size (by repeat (first | (with_reducible first | exact HB.out | apply below_alloc | apply pw_below_drewN | apply below_drew1 | refine below_set ?_ GE470.out | refine below_set ?_ GE485.out) | exact HB.out))))
        have n5_ := Aside0.mk (Kd.R_lower (Kd.R_new' (Kd.R_new' ho1 (Kd.R_lt (by (with_reducible repeat (first | apply Kd.R_alloc | apply Kd.R_drewN | apply Kd.R_drew)); exact HO477.out))) (Kd.R_lt (by (with_reducible repeat (first | apply Kd.R_alloc | apply Kd.R_drewN | apply Kd.R_drew)); exact HO484.out))) (below_size (by repeat (first | (with_reducible first | exact HB.out | apply below_alloc | apply pw_below_drewN | apply below_drew1 | refine below_set ?_ GE470.out | refine below_set ?_ GE485.out) | exact HB.out))))
        have n6_ := Aside0.mk (blk_below (g := gb470) (o := .cells #[.slice A0_0 l0_0.length c0_0, .slice A0_1 l0_1.length c0_1] 26 (0, 0)) (by (with_reducible repeat (first | refine blk_drewN ?_ _ | refine blk_drew ?_ | refine blk_alloc ?_ _)); exact BK470.out) hb)
        have n7_ := Aside0.mk (blk_below (g := gb485) (o := .cells #[.slice Ao42 t479.length co42, .slice Ao45 t482.length co45] 29 (0, 0)) (by (with_reducible repeat (first | refine blk_drewN ?_ _ | refine blk_drew ?_ | refine blk_alloc ?_ _)); exact BK485.out) hb)
        have n8_ := Aside0.mk (below_step (by repeat (first | (with_reducible first | exact HB.out | apply below_alloc | apply pw_below_drewN | apply below_drew1 | refine below_set ?_ GE470.out | refine below_set ?_ GE485.out) | exact HB.out)) hb)
        clear HO474
        clear HO477
        clear HO481
        clear HO484
        clear BK470
        clear BK485
        clear HB
        have HO474 := n0_
        have HO477 := n1_
        have HO481 := n2_
        have HO484 := n3_
        have HO489 := n4_
        have HO492 := n5_
        have BK470 := n6_
        have BK485 := n7_
        have HB := n8_
        clear n0_ n1_ n2_ n3_ n4_ n5_ n6_ n7_ n8_
        (try clear hb)
        (try clear hb2)
        (try clear hk)
        (try clear hi)
        (try clear ho0)
        (try clear ho1)
        obtain ⟨Ao49, co49, eo49⟩ := Kd.S_slice HO489.out
        (first | subst eo49 | (injection eo49 with f1_ f2_ f3_; have f4_ := f1_.symm; have f5_ := f3_.symm; clear f1_ f2_ f3_; subst f4_; subst f5_))
        obtain ⟨Ao50, co50, eo50⟩ := Kd.R_slice HO492.out
        (first | subst eo50 | (injection eo50 with f1_ f2_ f3_; have f4_ := f1_.symm; have f5_ := f3_.symm; clear f1_ f2_ f3_; subst f4_; subst f5_))
        refine hK.out _ _ ⟨(blk_cell BK485.out 0).trans rfl, (blk_cell BK485.out 1).trans rfl, (blk_cell BK470.out 0).trans rfl, (blk_cell BK470.out 1).trans rfl⟩ (fun hHeld => ?_)
        clear hK K
        refine norm_ (a' := ?_) ?_ ?_
        rotate_left
        · show Act.put _ (some 24) _ = _
          simp only [Act.put, List.setIfInBounds_toArray, List.set_cons_zero, List.set_cons_succ, i64_w, i32_w]
          rfl
        refine one_ (i := 3) (N := some 25) #[true, true, true, true, false] rfl rfl (by kernel_rfl) (by decide) (fun K hK => ?_)
        refine goes_ Try.func21 (by kernel_rfl) rfl #[.agg #[.slice Ao42 t479.length co42, .slice Ao45 t482.length co45], .agg #[.slice Ao49 t487.length co49, .slice Ao50 t490.length co50]] (by rfl) rfl rfl (by (try simp only [List.map_toArray, List.map_cons, List.map_nil]); first | done | rfl | (simp only [List.length_drop, List.length_take]; rfl)) ?_
        with_reducible refine (laws_eqLogic.calls k _ _ t479 _ _ t482 _ _ t487 _ _ t490 true _ ?side1 ?side2 ?side3 ?side4 ?side5 ?side6 ?side7 ?side8 A29.out).mono ?_
        (case side1 => repeat (first | exact (Kd.S_reads' HO481.out).2.2 | (with_reducible refine Kd.C_alloc ?_ _) | (with_reducible refine Kd.C_drewN ?_ _) | (with_reducible refine Kd.C_drew ?_)))
        (case side2 => exact (Kd.S_reads' HO481.out).2.1)
        (case side3 => repeat (first | exact (Kd.R_reads' HO484.out).2.2 | (with_reducible refine Kd.C_alloc ?_ _) | (with_reducible refine Kd.C_drewN ?_ _) | (with_reducible refine Kd.C_drew ?_)))
        (case side4 => exact (Kd.R_reads' HO484.out).2.1)
        (case side5 => repeat (first | exact (Kd.S_reads' HO489.out).2.2 | (with_reducible refine Kd.C_alloc ?_ _) | (with_reducible refine Kd.C_drewN ?_ _) | (with_reducible refine Kd.C_drew ?_)))
        (case side6 => exact (Kd.S_reads' HO489.out).2.1)
        (case side7 => repeat (first | exact (Kd.R_reads' HO492.out).2.2 | (with_reducible refine Kd.C_alloc ?_ _) | (with_reducible refine Kd.C_drewN ?_ _) | (with_reducible refine Kd.C_drew ?_)))
        (case side8 => exact (Kd.R_reads' HO492.out).2.1)
        rintro e w51 ⟨rfl, hb⟩
        refine ⟨_, rfl, ?_⟩
        have n0_ := Aside0.mk (Kd.S_below (by (with_reducible repeat (first | apply Kd.S_alloc | apply Kd.S_drewN | apply Kd.S_drew)); exact HO474.out) hb)
        have n1_ := Aside0.mk (Kd.R_below (by (with_reducible repeat (first | apply Kd.R_alloc | apply Kd.R_drewN | apply Kd.R_drew)); exact HO477.out) hb)
        have n2_ := Aside0.mk (Kd.S_below (by (with_reducible repeat (first | apply Kd.S_alloc | apply Kd.S_drewN | apply Kd.S_drew)); exact HO481.out) hb)
        have n3_ := Aside0.mk (Kd.R_below (by (with_reducible repeat (first | apply Kd.R_alloc | apply Kd.R_drewN | apply Kd.R_drew)); exact HO484.out) hb)
        have n4_ := Aside0.mk (Kd.S_below (by (with_reducible repeat (first | apply Kd.S_alloc | apply Kd.S_drewN | apply Kd.S_drew)); exact HO489.out) hb)
        have n5_ := Aside0.mk (Kd.R_below (by (with_reducible repeat (first | apply Kd.R_alloc | apply Kd.R_drewN | apply Kd.R_drew)); exact HO492.out) hb)
        have n6_ := Aside0.mk (blk_below (g := gb470) (o := .cells #[.slice A0_0 l0_0.length c0_0, .slice A0_1 l0_1.length c0_1] 26 (0, 0)) (by (with_reducible repeat (first | refine blk_drewN ?_ _ | refine blk_drew ?_ | refine blk_alloc ?_ _)); exact BK470.out) hb)
        have n7_ := Aside0.mk (blk_below (g := gb485) (o := .cells #[.slice Ao42 t479.length co42, .slice Ao45 t482.length co45] 29 (0, 0)) (by (with_reducible repeat (first | refine blk_drewN ?_ _ | refine blk_drew ?_ | refine blk_alloc ?_ _)); exact BK485.out) hb)
        have n8_ := Aside0.mk (below_step (by repeat (first | (with_reducible first | exact HB.out | apply below_alloc | apply pw_below_drewN | apply below_drew1 | refine below_set ?_ GE470.out | refine below_set ?_ GE485.out) | exact HB.out)) hb)
        clear HO474
        clear HO477
        clear HO481
        clear HO484
        clear HO489
        clear HO492
        clear BK470
        clear BK485
        clear HB
        have HO474 := n0_
        have HO477 := n1_
        have HO481 := n2_
        have HO484 := n3_
        have HO489 := n4_
        have HO492 := n5_
        have BK470 := n6_
        have BK485 := n7_
        have HB := n8_
        clear n0_ n1_ n2_ n3_ n4_ n5_ n6_ n7_ n8_
        (try clear hb)
        (try clear hb2)
        (try clear hk)
        (try clear hi)
        refine hK.out _ _ ⟨(blk_cell BK485.out 0).trans rfl, (blk_cell BK485.out 1).trans rfl, (blk_cell BK470.out 0).trans rfl, (blk_cell BK470.out 1).trans rfl⟩ (fun hHeld => ?_)
        clear hK K
        refine norm_ (a' := ?_) ?_ ?_
        rotate_left
        · show Act.put _ (some 25) _ = _
          simp only [Act.put, List.setIfInBounds_toArray, List.set_cons_zero, List.set_cons_succ, i64_w, i32_w]
          rfl
        refine pure_ (i := 4) (N := some 26) (v := ?_) (a' := ?_) #[true, true, true, true, true] rfl rfl (by kernel_rfl) (fun _ _ _ h => h) (Or.inl ⟨by rfl, ?_⟩) ?_ ?_
        rotate_left
        · intro w'
          go_simp
          with_reducible rfl
        rotate_left
        · simp only [Act.put, List.setIfInBounds_toArray, List.set_cons_zero, List.set_cons_succ, i64_w, i32_w]
          rfl
        refine done_ (by kernel_rfl) ?_
        try go_wp2
        go_ret
        exact ⟨by first | rfl | (simp [errW_none, errW_some] <;> rfl) | (simp [*, errW_none, errW_some] <;> rfl), by repeat (first | (with_reducible first | exact HB.out | apply below_alloc | apply pw_below_drewN | apply below_drew1 | refine below_set ?_ GE470.out | refine below_set ?_ GE485.out) | exact HB.out)⟩
      · replace c30 := Bool.eq_false_iff.mpr c30
        subst c30
        have H1 : (some false) = some r := by rw [if_neg (show ¬ (false = true) by decide)] at H; exact H
        clear H
        have H := H1
        clear H1
        obtain rfl := Option.some.inj H
        go_enter Try.func10, Try.ntmps10
        try go_wp2_with (first | ((with_reducible refine gate_dst (N := 1) rfl ?_); refine box_event ?hg (N := 1) ?hd (cs := #[.slice A0_0 l0_0.length c0_0, .slice A0_1 l0_1.length c0_1]) (t := 26) ?hr ?_; (case hd => rfl); (case hg => rfl); (case hr => first | (go_simp; done) | (go_simp; rfl)); intro gb470 hg w52 hbox hb; have n0_ := Aside0.mk (below_step (by repeat (first | (with_reducible first | exact HB.out | apply below_alloc | apply pw_below_drewN | apply below_drew1) | exact HB.out)) hb); have n1_ := Aside0.mk (hbox); have n2_ := Aside0.mk ((by rw [hg]; exact (below_size (by repeat (first | (with_reducible first | exact HB.out | apply below_alloc | apply pw_below_drewN | apply below_drew1) | exact HB.out))) : w.heap.size ≤ gb470)); have n3_ := Aside0.mk ((by rw [hg]; exact (below_size (by repeat (first | (with_reducible first | exact HB.out | apply below_alloc | apply pw_below_drewN | apply below_drew1) | exact HB.out))) : w.heap.size ≤ gb470)); clear HB; have HB := n0_; have BK470 := n1_; have GW470 := n2_; have GE470 := n3_; clear n0_ n1_ n2_ n3_; clear hb hbox hg; have hcz53_0 : w52.cell? ⟨gb470, 0, none⟩ = some (.slice A0_0 l0_0.length c0_0) := (blk_cell BK470.out 0).trans rfl; have hcz53_1 : w52.cell? ⟨gb470, 1, none⟩ = some (.slice A0_1 l0_1.length c0_1) := (blk_cell BK470.out 1).trans rfl; have hfz53_0 := blk_frozen BK470.out 0; have hfz53_1 := blk_frozen BK470.out 1) | ((with_reducible refine gate_callee (f := 17) rfl ?_); refine goesL_ (some 9) rfl rfl Try.func17 (by kernel_rfl) rfl #[.agg #[.slice A0_0 l0_0.length c0_0, .slice A0_1 l0_1.length c0_1], .int .i64 1048576] rfl (by (try simp only [List.map_toArray, List.map_cons, List.map_nil]); first | done | rfl | (simp only [List.length_drop, List.length_take]; rfl)) ?_; (with_reducible refine (laws_szLogic.calls k _ _ l0_0 _ _ l0_1 1048576 t471 _ ?side1 ?side2 ?side3 ?side4 A2.out).mono ?_); (case side1 => repeat (first | exact (Kd.C_below HR0_0.out HB.out) | (with_reducible refine Kd.C_alloc ?_ _) | (with_reducible refine Kd.C_drewN ?_ _) | (with_reducible refine Kd.C_drew ?_))); (case side2 => exact HC0_0.out); (case side3 => repeat (first | exact (Kd.C_below HR0_1.out HB.out) | (with_reducible refine Kd.C_alloc ?_ _) | (with_reducible refine Kd.C_drewN ?_ _) | (with_reducible refine Kd.C_drew ?_))); (case side4 => exact HC0_1.out); rintro e w54 ⟨rfl, hb⟩; refine ⟨_, rfl, ?_⟩; have n0_ := Aside0.mk (blk_below (g := gb470) (o := .cells #[.slice A0_0 l0_0.length c0_0, .slice A0_1 l0_1.length c0_1] 26 (0, 0)) (by (with_reducible repeat (first | refine blk_drewN ?_ _ | refine blk_drew ?_ | refine blk_alloc ?_ _)); exact BK470.out) hb); have n1_ := Aside0.mk (below_step (by repeat (first | (with_reducible first | exact HB.out | apply below_alloc | apply pw_below_drewN | apply below_drew1 | refine below_set ?_ GE470.out) | exact HB.out)) hb); clear BK470; clear HB; have BK470 := n0_; have HB := n1_; clear n0_ n1_; (try clear hb); (try clear hb2); (try clear hk); (try clear hi); have hcz55_0 : w54.cell? ⟨gb470, 0, none⟩ = some (.slice A0_0 l0_0.length c0_0) := (blk_cell BK470.out 0).trans rfl; have hcz55_1 : w54.cell? ⟨gb470, 1, none⟩ = some (.slice A0_1 l0_1.length c0_1) := (blk_cell BK470.out 1).trans rfl; have hfz55_0 := blk_frozen BK470.out 0; have hfz55_1 := blk_frozen BK470.out 1) | ((with_reducible refine gate_callee (f := 19) rfl ?_); refine goesL_ (some 13) rfl rfl Try.func19 (by kernel_rfl) rfl #[.agg #[.slice A0_0 l0_0.length c0_0, .slice A0_1 l0_1.length c0_1]] rfl (by (try simp only [List.map_toArray, List.map_cons, List.map_nil]); first | done | rfl | (simp only [List.length_drop, List.length_take]; rfl)) ?_; (with_reducible refine (laws_toLogic.calls k _ _ l0_0 _ _ l0_1 t472 t475 _ ?side1 ?side2 ?side3 ?side4 A7.out).mono ?_); (case side1 => repeat (first | exact (Kd.C_below HR0_0.out HB.out) | (with_reducible refine Kd.C_alloc ?_ _) | (with_reducible refine Kd.C_drewN ?_ _) | (with_reducible refine Kd.C_drew ?_))); (case side2 => exact HC0_0.out); (case side3 => repeat (first | exact (Kd.C_below HR0_1.out HB.out) | (with_reducible refine Kd.C_alloc ?_ _) | (with_reducible refine Kd.C_drewN ?_ _) | (with_reducible refine Kd.C_drew ?_))); (case side4 => exact HC0_1.out); rintro e w56 ⟨v473, v476, rfl, ho0, ho1, hb⟩; refine ⟨_, rfl, ?_⟩; have n0_ := Aside0.mk (Kd.S_lower ho0 (below_size (by repeat (first | (with_reducible first | exact HB.out | apply below_alloc | apply pw_below_drewN | apply below_drew1 | refine below_set ?_ GE470.out) | exact HB.out)))); have n1_ := Aside0.mk (Kd.R_lower ho1 (below_size (by repeat (first | (with_reducible first | exact HB.out | apply below_alloc | apply pw_below_drewN | apply below_drew1 | refine below_set ?_ GE470.out) | exact HB.out)))); have n2_ := Aside0.mk (blk_below (g := gb470) (o := .cells #[.slice A0_0 l0_0.length c0_0, .slice A0_1 l0_1.length c0_1] 26 (0, 0)) (by (with_reducible repeat (first | refine blk_drewN ?_ _ | refine blk_drew ?_ | refine blk_alloc ?_ _)); exact BK470.out) hb); have n3_ := Aside0.mk (below_step (by repeat (first | (with_reducible first | exact HB.out | apply below_alloc | apply pw_below_drewN | apply below_drew1 | refine below_set ?_ GE470.out) | exact HB.out)) hb); clear BK470; clear HB; have HO474 := n0_; have HO477 := n1_; have BK470 := n2_; have HB := n3_; clear n0_ n1_ n2_ n3_; (try clear hb); (try clear hb2); (try clear hk); (try clear hi); (try clear ho0); (try clear ho1); obtain ⟨Ao57, co57, eo57⟩ := Kd.S_slice HO474.out; subst eo57; obtain ⟨Ao58, co58, eo58⟩ := Kd.R_slice HO477.out; subst eo58) | ((with_reducible refine gate_callee (f := 32) rfl ?_); refine goesL_ (some 14) rfl rfl Try.func32 (by kernel_rfl) rfl #[.agg #[.slice Ao57 t472.length co57, .slice Ao58 t475.length co58]] rfl (by (try simp only [List.map_toArray, List.map_cons, List.map_nil]); first | done | rfl | (simp only [List.length_drop, List.length_take]; rfl)) ?_; (with_reducible refine (spec_AddsUpOk.calls k _ _ t472 _ _ t475 t478 _ ?side1 ?side2 ?side3 ?side4 A8.out).mono ?_); (case side1 => repeat (first | exact (Kd.S_reads' HO474.out).2.2 | (with_reducible refine Kd.C_alloc ?_ _) | (with_reducible refine Kd.C_drewN ?_ _) | (with_reducible refine Kd.C_drew ?_))); (case side2 => exact (Kd.S_reads' HO474.out).2.1); (case side3 => repeat (first | exact (Kd.R_reads' HO477.out).2.2 | (with_reducible refine Kd.C_alloc ?_ _) | (with_reducible refine Kd.C_drewN ?_ _) | (with_reducible refine Kd.C_drew ?_))); (case side4 => exact (Kd.R_reads' HO477.out).2.1); rintro e w59 ⟨rfl, hb⟩; refine ⟨_, rfl, ?_⟩; have n0_ := Aside0.mk (Kd.S_below (by (with_reducible repeat (first | apply Kd.S_alloc | apply Kd.S_drewN | apply Kd.S_drew)); exact HO474.out) hb); have n1_ := Aside0.mk (Kd.R_below (by (with_reducible repeat (first | apply Kd.R_alloc | apply Kd.R_drewN | apply Kd.R_drew)); exact HO477.out) hb); have n2_ := Aside0.mk (blk_below (g := gb470) (o := .cells #[.slice A0_0 l0_0.length c0_0, .slice A0_1 l0_1.length c0_1] 26 (0, 0)) (by (with_reducible repeat (first | refine blk_drewN ?_ _ | refine blk_drew ?_ | refine blk_alloc ?_ _)); exact BK470.out) hb); have n3_ := Aside0.mk (below_step (by repeat (first | (with_reducible first | exact HB.out | apply below_alloc | apply pw_below_drewN | apply below_drew1 | refine below_set ?_ GE470.out) | exact HB.out)) hb); clear HO474; clear HO477; clear BK470; clear HB; have HO474 := n0_; have HO477 := n1_; have BK470 := n2_; have HB := n3_; clear n0_ n1_ n2_ n3_; (try clear hb); (try clear hb2); (try clear hk); (try clear hi); have hcz60_0 : w59.cell? ⟨gb470, 0, none⟩ = some (.slice A0_0 l0_0.length c0_0) := (blk_cell BK470.out 0).trans rfl; have hcz60_1 : w59.cell? ⟨gb470, 1, none⟩ = some (.slice A0_1 l0_1.length c0_1) := (blk_cell BK470.out 1).trans rfl; have hfz60_0 := blk_frozen BK470.out 0; have hfz60_1 := blk_frozen BK470.out 1) | ((with_reducible refine gate_callee (f := 19) rfl ?_); refine goesL_ (some 16) rfl rfl Try.func19 (by kernel_rfl) rfl #[.agg #[.slice A0_0 l0_0.length c0_0, .slice A0_1 l0_1.length c0_1]] rfl (by (try simp only [List.map_toArray, List.map_cons, List.map_nil]); first | done | rfl | (simp only [List.length_drop, List.length_take]; rfl)) ?_; (with_reducible refine (laws_toLogic.calls k _ _ l0_0 _ _ l0_1 t479 t482 _ ?side1 ?side2 ?side3 ?side4 A9.out).mono ?_); (case side1 => repeat (first | exact (Kd.C_below HR0_0.out HB.out) | (with_reducible refine Kd.C_alloc ?_ _) | (with_reducible refine Kd.C_drewN ?_ _) | (with_reducible refine Kd.C_drew ?_))); (case side2 => exact HC0_0.out); (case side3 => repeat (first | exact (Kd.C_below HR0_1.out HB.out) | (with_reducible refine Kd.C_alloc ?_ _) | (with_reducible refine Kd.C_drewN ?_ _) | (with_reducible refine Kd.C_drew ?_))); (case side4 => exact HC0_1.out); rintro e w61 ⟨v480, v483, rfl, ho0, ho1, hb⟩; refine ⟨_, rfl, ?_⟩; have n0_ := Aside0.mk (Kd.S_mono (Kd.S_told (Kd.S_told (Kd.S_old (by (with_reducible repeat (first | apply Kd.S_alloc | apply Kd.S_drewN | apply Kd.S_drew)); exact HO474.out) hb) (Kd.S_base ho0)) (Kd.R_base ho1)) (fun _ h_ => h_.1)); have n1_ := Aside0.mk (Kd.R_elder' (by (with_reducible repeat (first | apply Kd.R_alloc | apply Kd.R_drewN | apply Kd.R_drew)); exact HO477.out) (Kd.R_base ho1) hb); have n2_ := Aside0.mk (Kd.S_lower (Kd.S_new' (Kd.S_new' ho0 (Kd.S_lt (by (with_reducible repeat (first | apply Kd.S_alloc | apply Kd.S_drewN | apply Kd.S_drew)); exact HO474.out))) (Kd.R_lt (by (with_reducible repeat (first | apply Kd.R_alloc | apply Kd.R_drewN | apply Kd.R_drew)); exact HO477.out))) (below_size (by repeat (first | (with_reducible first | exact HB.out | apply below_alloc | apply pw_below_drewN | apply below_drew1 | refine below_set ?_ GE470.out) | exact HB.out)))); have n3_ := Aside0.mk (Kd.R_lower (Kd.R_new' ho1 (Kd.R_lt (by (with_reducible repeat (first | apply Kd.R_alloc | apply Kd.R_drewN | apply Kd.R_drew)); exact HO477.out))) (below_size (by repeat (first | (with_reducible first | exact HB.out | apply below_alloc | apply pw_below_drewN | apply below_drew1 | refine below_set ?_ GE470.out) | exact HB.out)))); have n4_ := Aside0.mk (blk_below (g := gb470) (o := .cells #[.slice A0_0 l0_0.length c0_0, .slice A0_1 l0_1.length c0_1] 26 (0, 0)) (by (with_reducible repeat (first | refine blk_drewN ?_ _ | refine blk_drew ?_ | refine blk_alloc ?_ _)); exact BK470.out) hb); have n5_ := Aside0.mk (below_step (by repeat (first | (with_reducible first | exact HB.out | apply below_alloc | apply pw_below_drewN | apply below_drew1 | refine below_set ?_ GE470.out) | exact HB.out)) hb); clear HO474; clear HO477; clear BK470; clear HB; have HO474 := n0_; have HO477 := n1_; have HO481 := n2_; have HO484 := n3_; have BK470 := n4_; have HB := n5_; clear n0_ n1_ n2_ n3_ n4_ n5_; (try clear hb); (try clear hb2); (try clear hk); (try clear hi); (try clear ho0); (try clear ho1)) | ((with_reducible refine gate_dst (N := 5) rfl ?_); refine box_event ?hg (N := 5) ?hd (cs := #[.slice none 0 0, .slice none 0 0]) (t := 29) ?hr ?_; (case hd => rfl); (case hg => rfl); (case hr => first | (go_simp; done) | (go_simp; rfl)); intro gb485 hg w62 hbox hb; have n0_ := Aside0.mk (Kd.S_below (by (with_reducible repeat (first | apply Kd.S_alloc | apply Kd.S_drewN | apply Kd.S_drew)); exact HO474.out) hb); have n1_ := Aside0.mk (Kd.R_below (by (with_reducible repeat (first | apply Kd.R_alloc | apply Kd.R_drewN | apply Kd.R_drew)); exact HO477.out) hb); have n2_ := Aside0.mk (Kd.S_below (by (with_reducible repeat (first | apply Kd.S_alloc | apply Kd.S_drewN | apply Kd.S_drew)); exact HO481.out) hb); have n3_ := Aside0.mk (Kd.R_below (by (with_reducible repeat (first | apply Kd.R_alloc | apply Kd.R_drewN | apply Kd.R_drew)); exact HO484.out) hb); have n4_ := Aside0.mk (blk_below (g := gb470) (o := .cells #[.slice A0_0 l0_0.length c0_0, .slice A0_1 l0_1.length c0_1] 26 (0, 0)) (by (with_reducible repeat (first | refine blk_drewN ?_ _ | refine blk_drew ?_ | refine blk_alloc ?_ _)); exact BK470.out) hb); have n5_ := Aside0.mk (below_step (by repeat (first | (with_reducible first | exact HB.out | apply below_alloc | apply pw_below_drewN | apply below_drew1 | refine below_set ?_ GE470.out) | exact HB.out)) hb); have n6_ := Aside0.mk (hbox); have n7_ := Aside0.mk ((by rw [hg]; exact (below_size (by repeat (first | (with_reducible first | exact HB.out | apply below_alloc | apply pw_below_drewN | apply below_drew1 | refine below_set ?_ GE470.out) | exact HB.out))) : w.heap.size ≤ gb485)); have n8_ := Aside0.mk ((by rw [hg]; exact (below_size (by repeat (first | (with_reducible first | exact HB.out | apply below_alloc | apply pw_below_drewN | apply below_drew1 | refine below_set ?_ GE470.out) | exact HB.out))) : w.heap.size ≤ gb485)); have n9_ := Aside0.mk ((by rw [hg]; exact Nat.ne_of_lt (blk_lt (g := gb470) (o := .cells #[.slice A0_0 l0_0.length c0_0, .slice A0_1 l0_1.length c0_1] 26 (0, 0)) (by (with_reducible repeat (first | refine blk_drewN ?_ _ | refine blk_drew ?_ | refine blk_alloc ?_ _)); exact BK470.out)) : gb470 ≠ gb485)); have n10_ := Aside0.mk ((by rw [hg]; exact Nat.ne_of_gt (blk_lt (g := gb470) (o := .cells #[.slice A0_0 l0_0.length c0_0, .slice A0_1 l0_1.length c0_1] 26 (0, 0)) (by (with_reducible repeat (first | refine blk_drewN ?_ _ | refine blk_drew ?_ | refine blk_alloc ?_ _)); exact BK470.out)) : gb485 ≠ gb470)); clear HO474; clear HO477; clear HO481; clear HO484; clear BK470; clear HB; have HO474 := n0_; have HO477 := n1_; have HO481 := n2_; have HO484 := n3_; have BK470 := n4_; have HB := n5_; have BK485 := n6_; have GW485 := n7_; have GE485 := n8_; have NB470_485 := n9_; have NB485_470 := n10_; clear n0_ n1_ n2_ n3_ n4_ n5_ n6_ n7_ n8_ n9_ n10_; clear hb hbox hg; obtain ⟨Ao63, co63, eo63⟩ := Kd.S_slice HO481.out; subst eo63; have hnb64 := NB485_470.out; have hnc64 := NB470_485.out; have hcz65_0 : w62.cell? ⟨gb485, 0, none⟩ = some (.slice none 0 0) := (blk_cell BK485.out 0).trans rfl; have hcz65_1 : w62.cell? ⟨gb485, 1, none⟩ = some (.slice none 0 0) := (blk_cell BK485.out 1).trans rfl; have hfz65_0 := blk_frozen BK485.out 0; have hfz65_1 := blk_frozen BK485.out 1; obtain ⟨Ao66, co66, eo66⟩ := Kd.R_slice HO484.out; subst eo66) | ((with_reducible refine gate_callee (f := 33) rfl ?_); refine goesL_ (some 18) rfl rfl Try.func33 (by kernel_rfl) rfl #[.agg #[.slice Ao63 t479.length co63, .slice Ao66 t482.length co66]] rfl (by (try simp only [List.map_toArray, List.map_cons, List.map_nil]); first | done | rfl | (simp only [List.length_drop, List.length_take]; rfl)) ?_; (with_reducible refine (impl_AddsUpOk.calls _ _ t479 _ _ t482 t486 _ ?side1 ?side2 ?side3 ?side4 A10.out).mono ?_); (case side1 => refine (Kd.S_reads' (e := 24) (base := w.heap.size) (ok := fun k_ => ((some k_ ≠ (.slice Ao66 t482.length co66 : Value).ownBlock ∧ some k_ ≠ (.slice Ao57 t472.length co57 : Value).ownBlock) ∧ some k_ ≠ (.slice Ao58 t475.length co58 : Value).ownBlock)) (n := t479.length) (c := co63) ?_).2.2; exact (by (with_reducible repeat (first | apply Kd.S_alloc | apply Kd.S_drewN | apply Kd.S_drew)); exact (Kd.S_mono (Kd.S_far (p := ⟨gb485, 1, none⟩) (Kd.S_far (p := ⟨gb485, 0, none⟩) (Kd.S_types HO481.out BK485.out (by decide)) (fun _ hk => hk.2) (.slice Ao63 t479.length co63)) (fun _ hk => hk.2) (.slice Ao66 t482.length co66)) (fun _ h_ => h_.1)))); (case side2 => exact (Kd.S_reads' HO481.out).2.1); (case side3 => refine (Kd.R_reads' (e := 3) (base := w.heap.size) (ok := fun k_ => (True ∧ some k_ ≠ (.slice Ao58 t475.length co58 : Value).ownBlock)) (n := t482.length) (c := co66) ?_).2.2; exact (by (with_reducible repeat (first | apply Kd.R_alloc | apply Kd.R_drewN | apply Kd.R_drew)); exact (Kd.R_mono (Kd.R_far (p := ⟨gb485, 1, none⟩) (Kd.R_far (p := ⟨gb485, 0, none⟩) (Kd.R_types HO484.out BK485.out (by decide)) (fun _ hk => hk.2) (.slice Ao63 t479.length co63)) (fun _ hk => hk.2) (.slice Ao66 t482.length co66)) (fun _ h_ => h_.1)))); (case side4 => exact (Kd.R_reads' HO484.out).2.1); rintro e w67 ⟨rfl, hb⟩; refine ⟨_, rfl, ?_⟩; have n0_ := Aside0.mk (Kd.S_below (by (with_reducible repeat (first | apply Kd.S_alloc | apply Kd.S_drewN | apply Kd.S_drew)); exact (Kd.S_mono (Kd.S_far (p := ⟨gb485, 1, none⟩) (Kd.S_far (p := ⟨gb485, 0, none⟩) (Kd.S_types HO474.out BK485.out (by decide)) (fun _ hk => hk.2) (.slice Ao63 t479.length co63)) (fun _ hk => hk.2) (.slice Ao66 t482.length co66)) (fun _ h_ => h_.1))) hb); have n1_ := Aside0.mk (Kd.R_below (by (with_reducible repeat (first | apply Kd.R_alloc | apply Kd.R_drewN | apply Kd.R_drew)); exact (Kd.R_mono (Kd.R_far (p := ⟨gb485, 1, none⟩) (Kd.R_far (p := ⟨gb485, 0, none⟩) (Kd.R_types HO477.out BK485.out (by decide)) (fun _ hk => hk.2) (.slice Ao63 t479.length co63)) (fun _ hk => hk.2) (.slice Ao66 t482.length co66)) (fun _ h_ => h_.1))) hb); have n2_ := Aside0.mk (Kd.S_below (by (with_reducible repeat (first | apply Kd.S_alloc | apply Kd.S_drewN | apply Kd.S_drew)); exact (Kd.S_mono (Kd.S_far (p := ⟨gb485, 1, none⟩) (Kd.S_far (p := ⟨gb485, 0, none⟩) (Kd.S_types HO481.out BK485.out (by decide)) (fun _ hk => hk.2) (.slice Ao63 t479.length co63)) (fun _ hk => hk.2) (.slice Ao66 t482.length co66)) (fun _ h_ => h_.1))) hb); have n3_ := Aside0.mk (Kd.R_below (by (with_reducible repeat (first | apply Kd.R_alloc | apply Kd.R_drewN | apply Kd.R_drew)); exact (Kd.R_mono (Kd.R_far (p := ⟨gb485, 1, none⟩) (Kd.R_far (p := ⟨gb485, 0, none⟩) (Kd.R_types HO484.out BK485.out (by decide)) (fun _ hk => hk.2) (.slice Ao63 t479.length co63)) (fun _ hk => hk.2) (.slice Ao66 t482.length co66)) (fun _ h_ => h_.1))) hb); have n4_ := Aside0.mk (blk_below (g := gb470) (o := .cells #[.slice A0_0 l0_0.length c0_0, .slice A0_1 l0_1.length c0_1] 26 (0, 0)) (by (with_reducible repeat (first | refine blk_drewN ?_ _ | refine blk_drew ?_ | refine blk_alloc ?_ _)); refine blk_far ?_ NB470_485.out _; (with_reducible repeat (first | refine blk_drewN ?_ _ | refine blk_drew ?_ | refine blk_alloc ?_ _)); refine blk_far ?_ NB470_485.out _; (with_reducible repeat (first | refine blk_drewN ?_ _ | refine blk_drew ?_ | refine blk_alloc ?_ _)); exact BK470.out) hb); have n5_ := Aside0.mk (blk_below (g := gb485) (o := .cells #[.slice Ao63 t479.length co63, .slice Ao66 t482.length co66] 29 (0, 0)) (by (with_reducible repeat (first | refine blk_drewN ?_ _ | refine blk_drew ?_ | refine blk_alloc ?_ _)); refine blk_put (cs := #[.slice Ao63 t479.length co63, .slice none 0 0]) ?_ 1 _ rfl; (with_reducible repeat (first | refine blk_drewN ?_ _ | refine blk_drew ?_ | refine blk_alloc ?_ _)); refine blk_put (cs := #[.slice none 0 0, .slice none 0 0]) ?_ 0 _ rfl; (with_reducible repeat (first | refine blk_drewN ?_ _ | refine blk_drew ?_ | refine blk_alloc ?_ _)); exact BK485.out) hb); have n6_ := Aside0.mk (below_step (by repeat (first | (with_reducible first | exact HB.out | apply below_alloc | apply pw_below_drewN | apply below_drew1 | refine below_set ?_ GE470.out | refine below_set ?_ GE485.out) | exact HB.out)) hb); clear HO474; clear HO477; clear HO481; clear HO484; clear BK470; clear BK485; clear HB; have HO474 := n0_; have HO477 := n1_; have HO481 := n2_; have HO484 := n3_; have BK470 := n4_; have BK485 := n5_; have HB := n6_; clear n0_ n1_ n2_ n3_ n4_ n5_ n6_; (try clear hb); (try clear hb2); (try clear hk); (try clear hi)))
        have n0_ := Aside0.mk (Kd.S_drew HO474.out)
        have n1_ := Aside0.mk (Kd.R_drew HO477.out)
        have n2_ := Aside0.mk (Kd.S_drew HO481.out)
        have n3_ := Aside0.mk (Kd.R_drew HO484.out)
        have n4_ := Aside0.mk (blk_drew BK470.out)
        have n5_ := Aside0.mk (blk_drew BK485.out)
        have n6_ := Aside0.mk (below_drew1 HB.out)
        clear HO474
        clear HO477
        clear HO481
        clear HO484
        clear BK470
        clear BK485
        clear HB
        have HO474 := n0_
        have HO477 := n1_
        have HO481 := n2_
        have HO484 := n3_
        have BK470 := n4_
        have BK485 := n5_
        have HB := n6_
        clear n0_ n1_ n2_ n3_ n4_ n5_ n6_
        refine start_ (n := 5) (S := fun w' => w'.cell? ⟨gb485, 0, none⟩ = some (.slice Ao63 t479.length co63) ∧ w'.cell? ⟨gb485, 1, none⟩ = some (.slice Ao66 t482.length co66) ∧ w'.cell? ⟨gb470, 0, none⟩ = some (.slice A0_0 l0_0.length c0_0) ∧ w'.cell? ⟨gb470, 1, none⟩ = some (.slice A0_1 l0_1.length c0_1)) (ds := []) #[false, false, false, false, false] (by kernel_rfl) rfl rfl ⟨(blk_cell BK485.out 0).trans rfl, (blk_cell BK485.out 1).trans rfl, (blk_cell BK470.out 0).trans rfl, (blk_cell BK470.out 1).trans rfl⟩ (fun hHeld => ?_)
        generalize w67.drew = w68 at HO474 HO477 HO481 HO484 BK470 BK485 HB hHeld ⊢
        refine take_ (i := 0) (N := some 22) (v := ?_) (a' := ?_) #[true, false, false, false, false] rfl rfl (by kernel_rfl) (fun _ _ _ h => h) (Or.inl ⟨by rfl, ?_⟩) hHeld ?_ ?_
        rotate_left
        · rintro w' ⟨s0, s1, s2, s3⟩
          go_simp
          with_reducible rfl
        rotate_left
        · simp only [Act.put, List.setIfInBounds_toArray, List.set_cons_zero, List.set_cons_succ, i64_w, i32_w]
          rfl
        refine take_ (i := 1) (N := some 23) (v := ?_) (a' := ?_) #[true, true, false, false, false] rfl rfl (by kernel_rfl) (fun _ _ _ h => h) (Or.inl ⟨by rfl, ?_⟩) hHeld ?_ ?_
        rotate_left
        · rintro w' ⟨s0, s1, s2, s3⟩
          go_simp
          with_reducible rfl
        rotate_left
        · simp only [Act.put, List.setIfInBounds_toArray, List.set_cons_zero, List.set_cons_succ, i64_w, i32_w]
          rfl
        refine one_ (i := 2) (N := some 24) #[true, true, true, false, false] rfl rfl (by kernel_rfl) (by decide) (fun K hK => ?_)
        refine goes_ Try.func19 (by kernel_rfl) rfl #[.agg #[.slice A0_0 l0_0.length c0_0, .slice A0_1 l0_1.length c0_1]] (by rfl) rfl rfl (by (try simp only [List.map_toArray, List.map_cons, List.map_nil]); first | done | rfl | (simp only [List.length_drop, List.length_take]; rfl)) ?_
        with_reducible refine (laws_toLogic.calls k _ _ l0_0 _ _ l0_1 t487 t490 _ ?side1 ?side2 ?side3 ?side4 A28.out).mono ?_
        (case side1 => repeat (first | exact (Kd.C_below HR0_0.out HB.out) | (with_reducible refine Kd.C_alloc ?_ _) | (with_reducible refine Kd.C_drewN ?_ _) | (with_reducible refine Kd.C_drew ?_)))
        (case side2 => exact HC0_0.out)
        (case side3 => repeat (first | exact (Kd.C_below HR0_1.out HB.out) | (with_reducible refine Kd.C_alloc ?_ _) | (with_reducible refine Kd.C_drewN ?_ _) | (with_reducible refine Kd.C_drew ?_)))
        (case side4 => exact HC0_1.out)
        rintro e w69 ⟨v488, v491, rfl, ho0, ho1, hb⟩
        refine ⟨_, rfl, ?_⟩
        have n0_ := Aside0.mk (Kd.S_mono (Kd.S_told (Kd.S_told (Kd.S_old (by (with_reducible repeat (first | apply Kd.S_alloc | apply Kd.S_drewN | apply Kd.S_drew)); exact HO474.out) hb) (Kd.S_base ho0)) (Kd.R_base ho1)) (fun _ h_ => h_.1))
        have n1_ := Aside0.mk (Kd.R_elder' (by (with_reducible repeat (first | apply Kd.R_alloc | apply Kd.R_drewN | apply Kd.R_drew)); exact HO477.out) (Kd.R_base ho1) hb)
        have n2_ := Aside0.mk (Kd.S_mono (Kd.S_told (Kd.S_told (Kd.S_old (by (with_reducible repeat (first | apply Kd.S_alloc | apply Kd.S_drewN | apply Kd.S_drew)); exact HO481.out) hb) (Kd.S_base ho0)) (Kd.R_base ho1)) (fun _ h_ => h_.1))
        have n3_ := Aside0.mk (Kd.R_elder' (by (with_reducible repeat (first | apply Kd.R_alloc | apply Kd.R_drewN | apply Kd.R_drew)); exact HO484.out) (Kd.R_base ho1) hb)
        have n4_ := Aside0.mk (Kd.S_lower (Kd.S_new' (Kd.S_new' (Kd.S_new' (Kd.S_new' ho0 (Kd.S_lt (by (with_reducible repeat (first | apply Kd.S_alloc | apply Kd.S_drewN | apply Kd.S_drew)); exact HO474.out))) (Kd.R_lt (by (with_reducible repeat (first | apply Kd.R_alloc | apply Kd.R_drewN | apply Kd.R_drew)); exact HO477.out))) (Kd.S_lt (by (with_reducible repeat (first | apply Kd.S_alloc | apply Kd.S_drewN | apply Kd.S_drew)); exact HO481.out))) (Kd.R_lt (by (with_reducible repeat (first | apply Kd.R_alloc | apply Kd.R_drewN | apply Kd.R_drew)); exact HO484.out))) (below_size (by repeat (first | (with_reducible first | exact HB.out | apply below_alloc | apply pw_below_drewN | apply below_drew1 | refine below_set ?_ GE470.out | refine below_set ?_ GE485.out) | exact HB.out))))
        have n5_ := Aside0.mk (Kd.R_lower (Kd.R_new' (Kd.R_new' ho1 (Kd.R_lt (by (with_reducible repeat (first | apply Kd.R_alloc | apply Kd.R_drewN | apply Kd.R_drew)); exact HO477.out))) (Kd.R_lt (by (with_reducible repeat (first | apply Kd.R_alloc | apply Kd.R_drewN | apply Kd.R_drew)); exact HO484.out))) (below_size (by repeat (first | (with_reducible first | exact HB.out | apply below_alloc | apply pw_below_drewN | apply below_drew1 | refine below_set ?_ GE470.out | refine below_set ?_ GE485.out) | exact HB.out))))
        have n6_ := Aside0.mk (blk_below (g := gb470) (o := .cells #[.slice A0_0 l0_0.length c0_0, .slice A0_1 l0_1.length c0_1] 26 (0, 0)) (by (with_reducible repeat (first | refine blk_drewN ?_ _ | refine blk_drew ?_ | refine blk_alloc ?_ _)); exact BK470.out) hb)
        have n7_ := Aside0.mk (blk_below (g := gb485) (o := .cells #[.slice Ao63 t479.length co63, .slice Ao66 t482.length co66] 29 (0, 0)) (by (with_reducible repeat (first | refine blk_drewN ?_ _ | refine blk_drew ?_ | refine blk_alloc ?_ _)); exact BK485.out) hb)
        have n8_ := Aside0.mk (below_step (by repeat (first | (with_reducible first | exact HB.out | apply below_alloc | apply pw_below_drewN | apply below_drew1 | refine below_set ?_ GE470.out | refine below_set ?_ GE485.out) | exact HB.out)) hb)
        clear HO474
        clear HO477
        clear HO481
        clear HO484
        clear BK470
        clear BK485
        clear HB
        have HO474 := n0_
        have HO477 := n1_
        have HO481 := n2_
        have HO484 := n3_
        have HO489 := n4_
        have HO492 := n5_
        have BK470 := n6_
        have BK485 := n7_
        have HB := n8_
        clear n0_ n1_ n2_ n3_ n4_ n5_ n6_ n7_ n8_
        (try clear hb)
        (try clear hb2)
        (try clear hk)
        (try clear hi)
        (try clear ho0)
        (try clear ho1)
        obtain ⟨Ao70, co70, eo70⟩ := Kd.S_slice HO489.out
        (first | subst eo70 | (injection eo70 with f1_ f2_ f3_; have f4_ := f1_.symm; have f5_ := f3_.symm; clear f1_ f2_ f3_; subst f4_; subst f5_))
        obtain ⟨Ao71, co71, eo71⟩ := Kd.R_slice HO492.out
        (first | subst eo71 | (injection eo71 with f1_ f2_ f3_; have f4_ := f1_.symm; have f5_ := f3_.symm; clear f1_ f2_ f3_; subst f4_; subst f5_))
        refine hK.out _ _ ⟨(blk_cell BK485.out 0).trans rfl, (blk_cell BK485.out 1).trans rfl, (blk_cell BK470.out 0).trans rfl, (blk_cell BK470.out 1).trans rfl⟩ (fun hHeld => ?_)
        clear hK K
        refine norm_ (a' := ?_) ?_ ?_
        rotate_left
        · show Act.put _ (some 24) _ = _
          simp only [Act.put, List.setIfInBounds_toArray, List.set_cons_zero, List.set_cons_succ, i64_w, i32_w]
          rfl
        refine one_ (i := 3) (N := some 25) #[true, true, true, true, false] rfl rfl (by kernel_rfl) (by decide) (fun K hK => ?_)
        refine goes_ Try.func21 (by kernel_rfl) rfl #[.agg #[.slice Ao63 t479.length co63, .slice Ao66 t482.length co66], .agg #[.slice Ao70 t487.length co70, .slice Ao71 t490.length co71]] (by rfl) rfl rfl (by (try simp only [List.map_toArray, List.map_cons, List.map_nil]); first | done | rfl | (simp only [List.length_drop, List.length_take]; rfl)) ?_
        with_reducible refine (laws_eqLogic.calls k _ _ t479 _ _ t482 _ _ t487 _ _ t490 false _ ?side1 ?side2 ?side3 ?side4 ?side5 ?side6 ?side7 ?side8 A29.out).mono ?_
        (case side1 => repeat (first | exact (Kd.S_reads' HO481.out).2.2 | (with_reducible refine Kd.C_alloc ?_ _) | (with_reducible refine Kd.C_drewN ?_ _) | (with_reducible refine Kd.C_drew ?_)))
        (case side2 => exact (Kd.S_reads' HO481.out).2.1)
        (case side3 => repeat (first | exact (Kd.R_reads' HO484.out).2.2 | (with_reducible refine Kd.C_alloc ?_ _) | (with_reducible refine Kd.C_drewN ?_ _) | (with_reducible refine Kd.C_drew ?_)))
        (case side4 => exact (Kd.R_reads' HO484.out).2.1)
        (case side5 => repeat (first | exact (Kd.S_reads' HO489.out).2.2 | (with_reducible refine Kd.C_alloc ?_ _) | (with_reducible refine Kd.C_drewN ?_ _) | (with_reducible refine Kd.C_drew ?_)))
        (case side6 => exact (Kd.S_reads' HO489.out).2.1)
        (case side7 => repeat (first | exact (Kd.R_reads' HO492.out).2.2 | (with_reducible refine Kd.C_alloc ?_ _) | (with_reducible refine Kd.C_drewN ?_ _) | (with_reducible refine Kd.C_drew ?_)))
        (case side8 => exact (Kd.R_reads' HO492.out).2.1)
        rintro e w72 ⟨rfl, hb⟩
        refine ⟨_, rfl, ?_⟩
        have n0_ := Aside0.mk (Kd.S_below (by (with_reducible repeat (first | apply Kd.S_alloc | apply Kd.S_drewN | apply Kd.S_drew)); exact HO474.out) hb)
        have n1_ := Aside0.mk (Kd.R_below (by (with_reducible repeat (first | apply Kd.R_alloc | apply Kd.R_drewN | apply Kd.R_drew)); exact HO477.out) hb)
        have n2_ := Aside0.mk (Kd.S_below (by (with_reducible repeat (first | apply Kd.S_alloc | apply Kd.S_drewN | apply Kd.S_drew)); exact HO481.out) hb)
        have n3_ := Aside0.mk (Kd.R_below (by (with_reducible repeat (first | apply Kd.R_alloc | apply Kd.R_drewN | apply Kd.R_drew)); exact HO484.out) hb)
        have n4_ := Aside0.mk (Kd.S_below (by (with_reducible repeat (first | apply Kd.S_alloc | apply Kd.S_drewN | apply Kd.S_drew)); exact HO489.out) hb)
        have n5_ := Aside0.mk (Kd.R_below (by (with_reducible repeat (first | apply Kd.R_alloc | apply Kd.R_drewN | apply Kd.R_drew)); exact HO492.out) hb)
        have n6_ := Aside0.mk (blk_below (g := gb470) (o := .cells #[.slice A0_0 l0_0.length c0_0, .slice A0_1 l0_1.length c0_1] 26 (0, 0)) (by (with_reducible repeat (first | refine blk_drewN ?_ _ | refine blk_drew ?_ | refine blk_alloc ?_ _)); exact BK470.out) hb)
        have n7_ := Aside0.mk (blk_below (g := gb485) (o := .cells #[.slice Ao63 t479.length co63, .slice Ao66 t482.length co66] 29 (0, 0)) (by (with_reducible repeat (first | refine blk_drewN ?_ _ | refine blk_drew ?_ | refine blk_alloc ?_ _)); exact BK485.out) hb)
        have n8_ := Aside0.mk (below_step (by repeat (first | (with_reducible first | exact HB.out | apply below_alloc | apply pw_below_drewN | apply below_drew1 | refine below_set ?_ GE470.out | refine below_set ?_ GE485.out) | exact HB.out)) hb)
        clear HO474
        clear HO477
        clear HO481
        clear HO484
        clear HO489
        clear HO492
        clear BK470
        clear BK485
        clear HB
        have HO474 := n0_
        have HO477 := n1_
        have HO481 := n2_
        have HO484 := n3_
        have HO489 := n4_
        have HO492 := n5_
        have BK470 := n6_
        have BK485 := n7_
        have HB := n8_
        clear n0_ n1_ n2_ n3_ n4_ n5_ n6_ n7_ n8_
        (try clear hb)
        (try clear hb2)
        (try clear hk)
        (try clear hi)
        refine hK.out _ _ ⟨(blk_cell BK485.out 0).trans rfl, (blk_cell BK485.out 1).trans rfl, (blk_cell BK470.out 0).trans rfl, (blk_cell BK470.out 1).trans rfl⟩ (fun hHeld => ?_)
        clear hK K
        refine norm_ (a' := ?_) ?_ ?_
        rotate_left
        · show Act.put _ (some 25) _ = _
          simp only [Act.put, List.setIfInBounds_toArray, List.set_cons_zero, List.set_cons_succ, i64_w, i32_w]
          rfl
        refine pure_ (i := 4) (N := some 26) (v := ?_) (a' := ?_) #[true, true, true, true, true] rfl rfl (by kernel_rfl) (fun _ _ _ h => h) (Or.inl ⟨by rfl, ?_⟩) ?_ ?_
        rotate_left
        · intro w'
          go_simp
          with_reducible rfl
        rotate_left
        · simp only [Act.put, List.setIfInBounds_toArray, List.set_cons_zero, List.set_cons_succ, i64_w, i32_w]
          rfl
        refine done_ (by kernel_rfl) ?_
        try go_wp2
        go_ret
        exact ⟨by first | rfl | (simp [errW_none, errW_some] <;> rfl) | (simp [*, errW_none, errW_some] <;> rfl), by repeat (first | (with_reducible first | exact HB.out | apply below_alloc | apply pw_below_drewN | apply below_drew1 | refine below_set ?_ GE470.out | refine below_set ?_ GE485.out) | exact HB.out)⟩
end Go.Proofs.Ytjoadckkdophnaa.Print
end
