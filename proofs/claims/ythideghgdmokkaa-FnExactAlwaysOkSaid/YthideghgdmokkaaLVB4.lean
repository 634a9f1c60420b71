/- Part 4 of what is common to several claims of this seat: SameOkL, AlwaysOkL. -/
import Derived.Test.YthideghgdmokkaaLVB3
import Derived.Below
import Derived.Deep.Draws
import Derived.Deep.AppendLies
import Derived.Maps.AppendAt
import Derived.OwnWalk
import Derived.Laws.BytesArg
import Derived.Laws.MakeOwn
import Derived.Laws.OwnMore
import Derived.Deep.OwnRows
import Derived.Tactics
import Derived.Lib.ConvBytes
import Derived.Laws.Slices
import Derived.WalkKit
import Derived.KernelRfl
import Derived.RowKit3
import Derived.Deep.LoopGhost
import Derived.Deep.QuietTactic
import Derived.BigQuiet
import Derived.WideLaws
import Derived.Deep.DeepCutAuto
import Derived.Deep.CutBlock
import Derived.Deep.RegionHeld3
import Derived.Laws.Rows
import Derived.Lib.AppendStr
import Derived.ArgAppend
import Derived.Laws.IdiomCopy
import Derived.RowKit
import Derived.OrdersHeld
import Derived.Laws.BitsLemmas
import Derived.Test.YthideghgdmokkaaProg
section
namespace Go.Proofs.Ythideghgdmokkaa.Print
open Go.RowKit Go.Proofs.YthideghgdmokkaaW.PrintWords Go.Proofs.YthideghgdmokkaaW.PrintLast Go.Proofs.YthideghgdmokkaaW.PrintMore
set_option linter.unusedVariables false
set_option linter.unusedSimpArgs false
open Oml
def rowOk (U : List (List Int)) (i : Nat) : Bool :=
  ((U.getD i []).length == U.length) && (leB U i i && allN U.length fun j => (at2 U i j == 0 || at2 U i j == 1) && ((U.getD j []).length == U.length && !(leB U i j && (!(i == j) && leB U j i))))
def transOk (U : List (List Int)) : Bool := allN U.length fun a => allN U.length fun b => allN U.length fun c => !(leB U a b && leB U b c) || leB U a c
theorem orderB_eq (U : List (List Int)) : orderB U = (decide (1 ≤ U.length) && (decide (U.length ≤ 12) && (allN U.length (rowOk U) && transOk U))) := by
  rw [Bool.eq_iff_iff, orderB_iff]
  unfold rowOk transOk
  simp only [Bool.and_eq_true, decide_eq_true_eq, allN_iff, Bool.or_eq_true, beq_iff_eq, Bool.not_eq_true', Bool.and_eq_false_iff]
  constructor
  · intro O
    refine ⟨O.pos, O.small, fun i hi => ⟨O.row i hi, O.refl i hi, fun j hj => ⟨O.bit i j hi hj, O.row j hj, ?_⟩⟩, fun a ha b hb c hc => ?_⟩
    · by_cases e : i = j
      · right; left; simp [e]
      · cases k1 : leB U i j <;> cases k2 : leB U j i <;> simp
        exact O.anti i j hi hj k1 k2
    · cases k1 : leB U a b <;> cases k2 : leB U b c <;> simp
      exact O.trans a b c ha hb hc k1 k2
  · rintro ⟨h1, h2, h3, h4⟩
    refine ⟨h1, h2, fun a ha => (h3 a ha).1, fun a b ha hb => ((h3 a ha).2.2 b hb).1, fun a ha => (h3 a ha).2.1, fun a b ha hb k1 k2 => ?_, fun a b c ha hb hc k1 k2 => ?_⟩
    · rcases ((h3 a ha).2.2 b hb).2.2 with e | e | e
      · rw [k1] at e; exact absurd e (by simp)
      · simpa using e
      · rw [k2] at e; exact absurd e (by simp)
    · rcases h4 a ha b hb c hc with (e | e) | e
      · rw [k1] at e; exact absurd e (by simp)
      · rw [k2] at e; exact absurd e (by simp)
      · exact e
theorem impl_OrderOk.ev (U : List (List Int)) : Ev (fun k => impl_OrderOk.f k U) (orderB U) := by
  rw [orderB_eq]
  by_cases h1 : 1 ≤ U.length
  · by_cases h2 : U.length ≤ 12
    · simp only [h1, h2, decide_true, Bool.true_and]
      unfold impl_OrderOk.f
      repeat (first | ((with_reducible refine Ev.ite_pos ?_ ?_); (first | assumption | (focus omega) | (focus (simp; done)))) | ((with_reducible refine Ev.ite_neg ?_ ?_); (first | assumption | (focus omega) | (focus (simp; done)))))
      rw [show decide ((U.length : Int) > 12) = false from decide_eq_false (by omega)]
      refine Ev.succ ?_
      simp only [impl_OrderOk.j0]
      repeat (first | ((with_reducible refine Ev.ite_pos ?_ ?_); (first | assumption | (focus omega) | (focus (simp; done)))) | ((with_reducible refine Ev.ite_neg ?_ ?_); (first | assumption | (focus omega) | (focus (simp; done)))))
      refine Ev.eq (Ev.all (n := U.length) (g := fun k i => impl_OrderOk.l0 k U U.length U U.length i) (rowOk U) (go := transOk U) (stop := false) (by omega) (fun hr => ?_) fun i hi hj R hR => ?_) (by cases allN U.length (rowOk U) <;> rfl)
      · refine Ev.succ ?_
        simp only [impl_OrderOk.l0]
        repeat (first | ((with_reducible refine Ev.ite_pos ?_ ?_); (first | assumption | (focus omega) | (focus (simp; done)))) | ((with_reducible refine Ev.ite_neg ?_ ?_); (first | assumption | (focus omega) | (focus (simp; done)))))
        refine Ev.eq (Ev.all (n := U.length) (g := fun k i => impl_OrderOk.l2 k U U.length U.length i) (fun a => allN U.length fun b => allN U.length fun c => !(leB U a b && leB U b c) || leB U a c) (go := true) (stop := false) (by omega) (fun _ => ?_) fun a ha _ R hR => ?_) (by unfold transOk; cases allN U.length _ <;> rfl)
        · refine Ev.succ ?_
          simp only [impl_OrderOk.l2]
          repeat (first | ((with_reducible refine Ev.ite_pos ?_ ?_); (first | assumption | (focus omega) | (focus (simp; done)))) | ((with_reducible refine Ev.ite_neg ?_ ?_); (first | assumption | (focus omega) | (focus (simp; done)))))
          exact Ev.now _
        · refine Ev.succ ?_
          simp only [impl_OrderOk.l2]
          repeat (first | ((with_reducible refine Ev.ite_pos ?_ ?_); (first | assumption | (focus omega) | (focus (simp; done)))) | ((with_reducible refine Ev.ite_neg ?_ ?_); (first | assumption | (focus omega) | (focus (simp; done)))))
          refine Ev.all (n := U.length) (g := fun k i => impl_OrderOk.l3 k U U.length a U.length a U.length i) _ (by omega) (fun h => ?_) fun b hb _ R2 hR2 => ?_
          · refine Ev.succ ?_
            simp only [impl_OrderOk.l3]
            repeat (first | ((with_reducible refine Ev.ite_pos ?_ ?_); (first | assumption | (focus omega) | (focus (simp; done)))) | ((with_reducible refine Ev.ite_neg ?_ ?_); (first | assumption | (focus omega) | (focus (simp; done)))))
            exact hR (allN_iff.2 h)
          · refine Ev.succ ?_
            simp only [impl_OrderOk.l3]
            repeat (first | ((with_reducible refine Ev.ite_pos ?_ ?_); (first | assumption | (focus omega) | (focus (simp; done)))) | ((with_reducible refine Ev.ite_neg ?_ ?_); (first | assumption | (focus omega) | (focus (simp; done)))))
            refine Ev.all (n := U.length) (g := fun k i => impl_OrderOk.l4 k U U.length a b U.length a U.length b U.length i) _ (by omega) (fun h => ?_) fun c hc _ R3 hR3 => ?_
            · refine Ev.succ ?_
              simp only [impl_OrderOk.l4]
              repeat (first | ((with_reducible refine Ev.ite_pos ?_ ?_); (first | assumption | (focus omega) | (focus (simp; done)))) | ((with_reducible refine Ev.ite_neg ?_ ?_); (first | assumption | (focus omega) | (focus (simp; done)))))
              exact hR2 (allN_iff.2 h)
            · refine Ev.succ ?_
              have ra : ((U.getD a []).length : Int) = U.length := by have := hr a ha; unfold rowOk at this; simp only [Bool.and_eq_true, beq_iff_eq] at this; omega
              have rb : ((U.getD b []).length : Int) = U.length := by have := hr b hb; unfold rowOk at this; simp only [Bool.and_eq_true, beq_iff_eq] at this; omega
              simp only [impl_OrderOk.l4, rdL_nat, rd_nat, rd_row, ra, rb]
              repeat (first | ((with_reducible refine Ev.ite_pos ?_ ?_); (first | assumption | (focus omega) | (focus (simp; done)))) | ((with_reducible refine Ev.ite_neg ?_ ?_); (first | assumption | (focus omega) | (focus (simp; done)))))
              by_cases e1 : at2 U a b = 1
              · have f1 : leB U a b = true := by simp [leB, e1]
                by_cases e2 : at2 U b c = 1
                · have f2 : leB U b c = true := by simp [leB, e2]
                  by_cases e3 : at2 U a c = 1
                  · have f3 : leB U a c = true := by simp [leB, e3]
                    repeat (first | ((with_reducible refine Ev.ite_pos ?_ ?_); (first | assumption | (focus omega) | (focus (simp; done)))) | ((with_reducible refine Ev.ite_neg ?_ ?_); (first | assumption | (focus omega) | (focus (simp; done)))))
                    refine Ev.eq (hR3 (by simp [f3])) (by simp [f3])
                  · have f3 : leB U a c = false := by simp [leB, e3]
                    repeat (first | ((with_reducible refine Ev.ite_pos ?_ ?_); (first | assumption | (focus omega) | (focus (simp; done)))) | ((with_reducible refine Ev.ite_neg ?_ ?_); (first | assumption | (focus omega) | (focus (simp; done)))))
                    refine Ev.eq (Ev.now _) (by simp [f1, f2, f3])
                · have f2 : leB U b c = false := by simp [leB, e2]
                  repeat (first | ((with_reducible refine Ev.ite_pos ?_ ?_); (first | assumption | (focus omega) | (focus (simp; done)))) | ((with_reducible refine Ev.ite_neg ?_ ?_); (first | assumption | (focus omega) | (focus (simp; done)))))
                  refine Ev.eq (hR3 (by simp [f2])) (by simp [f2])
              · have f1 : leB U a b = false := by simp [leB, e1]
                repeat (first | ((with_reducible refine Ev.ite_pos ?_ ?_); (first | assumption | (focus omega) | (focus (simp; done)))) | ((with_reducible refine Ev.ite_neg ?_ ?_); (first | assumption | (focus omega) | (focus (simp; done)))))
                refine Ev.eq (hR3 (by simp [f1])) (by simp [f1])
      · refine Ev.succ ?_
        simp only [impl_OrderOk.l0, rdL_nat, rd_nat, rd_row]
        repeat (first | ((with_reducible refine Ev.ite_pos ?_ ?_); (first | assumption | (focus omega) | (focus (simp; done)))) | ((with_reducible refine Ev.ite_neg ?_ ?_); (first | assumption | (focus omega) | (focus (simp; done)))))
        by_cases e1 : (U.getD i []).length = U.length
        · repeat (first | ((with_reducible refine Ev.ite_pos ?_ ?_); (first | assumption | (focus omega) | (focus (simp; done)))) | ((with_reducible refine Ev.ite_neg ?_ ?_); (first | assumption | (focus omega) | (focus (simp; done)))))
          by_cases e2 : at2 U i i = 1
          · have f2 : leB U i i = true := by simp [leB, e2]
            rw [show (at2 U i i != 1) = false by simp [e2]]
            refine Ev.succ ?_
            simp only [impl_OrderOk.j2, rdL_nat, rd_nat, rd_row]
            repeat (first | ((with_reducible refine Ev.ite_pos ?_ ?_); (first | assumption | (focus omega) | (focus (simp; done)))) | ((with_reducible refine Ev.ite_neg ?_ ?_); (first | assumption | (focus omega) | (focus (simp; done)))))
            rw [e1]
            refine Ev.eq (Ev.all (n := U.length) (g := fun k j => impl_OrderOk.l1 k U U.length i U U.length i (U.getD i []) U.length j) (fun j => (at2 U i j == 0 || at2 U i j == 1) && ((U.getD j []).length == U.length && !(leB U i j && (!(i == j) && leB U j i)))) (go := R) (stop := false) (by omega) (fun h => ?_) fun j hj _ R2 hR2 => ?_) (by unfold rowOk; simp [-List.getD_eq_getElem?_getD, e1, f2])
            · refine Ev.succ ?_
              simp only [impl_OrderOk.l1]
              repeat (first | ((with_reducible refine Ev.ite_pos ?_ ?_); (first | assumption | (focus omega) | (focus (simp; done)))) | ((with_reducible refine Ev.ite_neg ?_ ?_); (first | assumption | (focus omega) | (focus (simp; done)))))
              exact hR (by unfold rowOk; simp only [e1, f2, BEq.rfl, Bool.true_and]; exact allN_iff.2 h)
            · refine Ev.succ ?_
              simp only [impl_OrderOk.l1, rd_nat, rd_row]
              repeat (first | ((with_reducible refine Ev.ite_pos ?_ ?_); (first | assumption | (focus omega) | (focus (simp; done)))) | ((with_reducible refine Ev.ite_neg ?_ ?_); (first | assumption | (focus omega) | (focus (simp; done)))))
              have j4 : ∀ R3 : Bool, (((U.getD j []).length = U.length → (leB U i j = true → i ≠ j → leB U j i = false) → Ev (fun k => impl_OrderOk.l1 k U U.length i U U.length i (U.getD i []) U.length (wrap64 ((j : Int) + 1))) R3)) →
                  Ev (fun k => impl_OrderOk.j4 k U U.length i j (at2 U i j) U U.length i (U.getD i []) U.length j false) (if ((U.getD j []).length == U.length && !(leB U i j && (!(i == j) && leB U j i))) = true then R3 else false) := by
                intro R3 hR3
                refine Ev.succ ?_
                simp only [impl_OrderOk.j4, rdL_nat, rd_nat, rd_row]
                repeat (first | ((with_reducible refine Ev.ite_pos ?_ ?_); (first | assumption | (focus omega) | (focus (simp; done)))) | ((with_reducible refine Ev.ite_neg ?_ ?_); (first | assumption | (focus omega) | (focus (simp; done)))))
                by_cases l1 : (U.getD j []).length = U.length
                · repeat (first | ((with_reducible refine Ev.ite_pos ?_ ?_); (first | assumption | (focus omega) | (focus (simp; done)))) | ((with_reducible refine Ev.ite_neg ?_ ?_); (first | assumption | (focus omega) | (focus (simp; done)))))
                  rw [l1]
                  by_cases x1 : at2 U i j = 1
                  · have y1 : leB U i j = true := by simp [leB, x1]
                    repeat (first | ((with_reducible refine Ev.ite_pos ?_ ?_); (first | assumption | (focus omega) | (focus (simp; done)))) | ((with_reducible refine Ev.ite_neg ?_ ?_); (first | assumption | (focus omega) | (focus (simp; done)))))
                    by_cases x2 : i = j
                    · repeat (first | ((with_reducible refine Ev.ite_pos ?_ ?_); (first | assumption | (focus omega) | (focus (simp; done)))) | ((with_reducible refine Ev.ite_neg ?_ ?_); (first | assumption | (focus omega) | (focus (simp; done)))))
                      exact Ev.eq (hR3 l1 (fun _ h => absurd x2 h)) (by simp [x2])
                    · repeat (first | ((with_reducible refine Ev.ite_pos ?_ ?_); (first | assumption | (focus omega) | (focus (simp; done)))) | ((with_reducible refine Ev.ite_neg ?_ ?_); (first | assumption | (focus omega) | (focus (simp; done)))))
                      by_cases x3 : at2 U j i = 1
                      · have y3 : leB U j i = true := by simp [leB, x3]
                        repeat (first | ((with_reducible refine Ev.ite_pos ?_ ?_); (first | assumption | (focus omega) | (focus (simp; done)))) | ((with_reducible refine Ev.ite_neg ?_ ?_); (first | assumption | (focus omega) | (focus (simp; done)))))
                        exact Ev.eq (Ev.now _) (by simp [x2, y1, y3])
                      · have y3 : leB U j i = false := by simp [leB, x3]
                        repeat (first | ((with_reducible refine Ev.ite_pos ?_ ?_); (first | assumption | (focus omega) | (focus (simp; done)))) | ((with_reducible refine Ev.ite_neg ?_ ?_); (first | assumption | (focus omega) | (focus (simp; done)))))
                        exact Ev.eq (hR3 l1 (fun _ _ => y3)) (by simp [y3])
                  · have y1 : leB U i j = false := by simp [leB, x1]
                    repeat (first | ((with_reducible refine Ev.ite_pos ?_ ?_); (first | assumption | (focus omega) | (focus (simp; done)))) | ((with_reducible refine Ev.ite_neg ?_ ?_); (first | assumption | (focus omega) | (focus (simp; done)))))
                    exact Ev.eq (hR3 l1 (fun h => by rw [y1] at h; exact absurd h (by simp))) (by simp [y1])
                · repeat (first | ((with_reducible refine Ev.ite_pos ?_ ?_); (first | assumption | (focus omega) | (focus (simp; done)))) | ((with_reducible refine Ev.ite_neg ?_ ?_); (first | assumption | (focus omega) | (focus (simp; done)))))
                  exact Ev.eq (Ev.now _) (by simp [-List.getD_eq_getElem?_getD, l1])
              have hgo : at2 U i j = 0 ∨ at2 U i j = 1 → Ev (fun k => impl_OrderOk.j4 k U U.length i j (at2 U i j) U U.length i (U.getD i []) U.length j false) (if ((at2 U i j == 0 || at2 U i j == 1) && ((U.getD j []).length == U.length && !(leB U i j && (!(i == j) && leB U j i)))) = true then R2 else false) := by
                intro hb
                have hb1 : (at2 U i j == 0 || at2 U i j == 1) = true := by rcases hb with h | h <;> simp [h]
                rw [hb1, Bool.true_and]
                refine j4 R2 fun l1 h => hR2 ?_
                rw [hb1, Bool.true_and]
                simp only [l1, BEq.rfl, Bool.true_and, Bool.not_eq_true']
                cases y1 : leB U i j
                · rfl
                · by_cases x2 : i = j
                  · simp [x2]
                  · simp [h y1 x2]
              by_cases x0 : at2 U i j = 0
              · repeat (first | ((with_reducible refine Ev.ite_pos ?_ ?_); (first | assumption | (focus omega) | (focus (simp; done)))) | ((with_reducible refine Ev.ite_neg ?_ ?_); (first | assumption | (focus omega) | (focus (simp; done)))))
                exact hgo (.inl x0)
              · repeat (first | ((with_reducible refine Ev.ite_pos ?_ ?_); (first | assumption | (focus omega) | (focus (simp; done)))) | ((with_reducible refine Ev.ite_neg ?_ ?_); (first | assumption | (focus omega) | (focus (simp; done)))))
                by_cases x1 : at2 U i j = 1
                · rw [show (at2 U i j != 1) = false by simp [x1]]
                  exact hgo (.inr x1)
                · rw [show (at2 U i j != 1) = true by simp [x1]]
                  refine Ev.succ ?_
                  simp only [impl_OrderOk.j4]
                  repeat (first | ((with_reducible refine Ev.ite_pos ?_ ?_); (first | assumption | (focus omega) | (focus (simp; done)))) | ((with_reducible refine Ev.ite_neg ?_ ?_); (first | assumption | (focus omega) | (focus (simp; done)))))
                  exact Ev.eq (Ev.now _) (by simp [x0, x1])
          · have f2 : leB U i i = false := by simp [leB, e2]
            rw [show (at2 U i i != 1) = true by simp [e2]]
            refine Ev.succ ?_
            simp only [impl_OrderOk.j2]
            repeat (first | ((with_reducible refine Ev.ite_pos ?_ ?_); (first | assumption | (focus omega) | (focus (simp; done)))) | ((with_reducible refine Ev.ite_neg ?_ ?_); (first | assumption | (focus omega) | (focus (simp; done)))))
            exact Ev.eq (Ev.now _) (by unfold rowOk; simp [f2])
        · repeat (first | ((with_reducible refine Ev.ite_pos ?_ ?_); (first | assumption | (focus omega) | (focus (simp; done)))) | ((with_reducible refine Ev.ite_neg ?_ ?_); (first | assumption | (focus omega) | (focus (simp; done)))))
          refine Ev.succ ?_
          simp only [impl_OrderOk.j2]
          repeat (first | ((with_reducible refine Ev.ite_pos ?_ ?_); (first | assumption | (focus omega) | (focus (simp; done)))) | ((with_reducible refine Ev.ite_neg ?_ ?_); (first | assumption | (focus omega) | (focus (simp; done)))))
          exact Ev.eq (Ev.now _) (by unfold rowOk; simp [-List.getD_eq_getElem?_getD, e1])
    · simp only [h1, h2, decide_true, decide_false, Bool.true_and, Bool.false_and]
      unfold impl_OrderOk.f
      repeat (first | ((with_reducible refine Ev.ite_pos ?_ ?_); (first | assumption | (focus omega) | (focus (simp; done)))) | ((with_reducible refine Ev.ite_neg ?_ ?_); (first | assumption | (focus omega) | (focus (simp; done)))))
      rw [show decide ((U.length : Int) > 12) = true from decide_eq_true (by omega)]
      refine Ev.succ ?_
      simp only [impl_OrderOk.j0]
      repeat (first | ((with_reducible refine Ev.ite_pos ?_ ?_); (first | assumption | (focus omega) | (focus (simp; done)))) | ((with_reducible refine Ev.ite_neg ?_ ?_); (first | assumption | (focus omega) | (focus (simp; done)))))
      exact Ev.now _
  · simp only [h1, decide_false, Bool.false_and]
    unfold impl_OrderOk.f
    repeat (first | ((with_reducible refine Ev.ite_pos ?_ ?_); (first | assumption | (focus omega) | (focus (simp; done)))) | ((with_reducible refine Ev.ite_neg ?_ ?_); (first | assumption | (focus omega) | (focus (simp; done)))))
    refine Ev.succ ?_
    simp only [impl_OrderOk.j0]
    repeat (first | ((with_reducible refine Ev.ite_pos ?_ ?_); (first | assumption | (focus omega) | (focus (simp; done)))) | ((with_reducible refine Ev.ite_neg ?_ ?_); (first | assumption | (focus omega) | (focus (simp; done)))))
    exact Ev.now _
theorem turnL_len (U : List (List Int)) : (turnL U).length = U.length := by simp [turnL]
theorem turnL_at (U : List (List Int)) {a b : Nat} (ha : a < U.length) (hb : b < U.length) : at2 (turnL U) a b = at2 U b a := by simp [at2, turnL, ha, hb]
theorem turnL_le (U : List (List Int)) {a b : Nat} (ha : a < U.length) (hb : b < U.length) : leB (turnL U) a b = leB U b a := by unfold leB; rw [turnL_at U ha hb]
theorem _root_.Oml.Order.turn {U : List (List Int)} (O : Order U) : Order (turnL U) where
  pos := by rw [turnL_len]; exact O.pos
  small := by rw [turnL_len]; exact O.small
  row a ha := by rw [turnL_len] at *; simp [turnL, ha]
  bit a b ha hb := by rw [turnL_len] at *; rw [turnL_at U ha hb]; exact O.bit b a hb ha
  refl a ha := by rw [turnL_len] at *; rw [turnL_le U ha ha]; exact O.refl a ha
  anti a b ha hb h k := by rw [turnL_len] at *; rw [turnL_le U ha hb] at h; rw [turnL_le U hb ha] at k; exact O.anti a b ha hb k h
  trans a b c ha hb hc h k := by rw [turnL_len] at *; rw [turnL_le U ha hb] at h; rw [turnL_le U hb hc] at k; rw [turnL_le U ha hc]; exact O.trans c b a hc hb ha k h
theorem allN_congr {n : Nat} {p q : Nat → Bool} (h : ∀ i, i < n → p i = q i) : allN n p = allN n q := by
  rw [Bool.eq_iff_iff, allN_iff, allN_iff]
  exact ⟨fun k i hi => h i hi ▸ k i hi, fun k i hi => (h i hi).symm ▸ k i hi⟩
theorem findN_congr {n : Nat} {p q : Nat → Bool} (h : ∀ i, i < n → p i = q i) : findN n p = findN n q := by
  cases e : findN n p with
  | some i => exact (findN_of (findN_some e).1 (by rw [← h i (findN_some e).1]; exact (findN_some e).2) fun j hj => by rw [← h j (by have := (findN_some e).1; omega)]; exact findN_first e j hj).symm
  | none => exact (findN_none.2 fun i hi => by rw [← h i hi]; exact findN_none.1 e i hi).symm
theorem meet_turn (U : List (List Int)) {a b : Nat} (ha : a < U.length) (hb : b < U.length) : mI (turnL U) a b = jI U a b := by
  unfold mI jI meetO joinO
  rw [turnL_len]
  congr 1
  refine findN_congr fun c hc => ?_
  unfold meetP joinP
  rw [turnL_le U hc ha, turnL_le U hc hb, turnL_len]
  congr 2
  refine allN_congr fun d hd => ?_
  rw [turnL_le U hd ha, turnL_le U hd hb, turnL_le U hd hc]
theorem impl_meet.ev_turn {U : List (List Int)} (O : Order U) {a b : Nat} (ha : a < U.length) (hb : b < U.length) : Ev (fun k => impl_meet.f k (turnL U) a b) (jI U a b) := by
  rw [← meet_turn U ha hb]
  exact impl_meet.ev O.turn (by rw [turnL_len]; exact ha) (by rw [turnL_len]; exact hb)
theorem getD_set {α : Type} (l : List α) (i j : Nat) (x d : α) (hi : i < l.length) : (l.set i x).getD j d = if j = i then x else l.getD j d := by
  by_cases e : j = i
  · subst e; simp [hi]
  · simp [List.getElem?_set, e, show ¬ (i = j) by omega]
theorem impl_turned.ev {U : List (List Int)} (O : Order U) : Ev (fun k => impl_turned.f k U) (turnL U) := by
  have hs := O.small
  unfold impl_turned.f
  repeat (first | ((with_reducible refine Ev.ite_pos ?_ ?_); (first | assumption | (focus omega) | (focus (simp; done)))) | ((with_reducible refine Ev.ite_neg ?_ ?_); (first | assumption | (focus omega) | (focus (simp; done)))))
  rw [Int.toNat_natCast]
  repeat (first | ((with_reducible refine Ev.ite_pos ?_ ?_); (first | assumption | (focus omega) | (focus (simp; done)))) | ((with_reducible refine Ev.ite_neg ?_ ?_); (first | assumption | (focus omega) | (focus (simp; done)))))
  refine Ev.loop (g := fun k s i => impl_turned.l0 k U s U.length i) U.length (fun i s => s.length = U.length ∧ ∀ a, a < i → s.getD a [] = (List.range U.length).map fun b => at2 U b a) (by omega) (fun s h => ?_) (fun i s hi h => ?_) _ ⟨by simp, fun a h => absurd h (Nat.not_lt_zero _)⟩
  · refine Ev.succ ?_
    simp only [impl_turned.l0]
    repeat (first | ((with_reducible refine Ev.ite_pos ?_ ?_); (first | assumption | (focus omega) | (focus (simp; done)))) | ((with_reducible refine Ev.ite_neg ?_ ?_); (first | assumption | (focus omega) | (focus (simp; done)))))
    refine Ev.eq (Ev.now s) (List.ext_getElem (by rw [h.1, turnL_len]) fun a h1 h2 => ?_)
    have := h.2 a (by omega)
    simpa [turnL, h1] using this
  · obtain ⟨h1, h2⟩ := h
    refine ⟨s.set i ((List.range U.length).map fun b => at2 U b i), ⟨by simp [h1], fun a ha => ?_⟩, fun K => Ev.succ ?_⟩
    · rw [getD_set _ _ _ _ _ (by omega)]
      by_cases e : a = i
      · rw [if_pos e, e]
      · rw [if_neg e]; exact h2 a (by omega)
    · simp only [impl_turned.l0, Int.toNat_natCast]
      repeat (first | ((with_reducible refine Ev.ite_pos ?_ ?_); (first | assumption | (focus omega) | (focus (simp; done)))) | ((with_reducible refine Ev.ite_neg ?_ ?_); (first | assumption | (focus omega) | (focus (simp; done)))))
      refine Ev.loop (g := fun k s j => impl_turned.l1 k U s i U.length i U.length j) U.length (fun j t => t.length = U.length ∧ (t.getD i []).length = U.length ∧ t.set i [] = s.set i [] ∧ ∀ b, b < j → at1 (t.getD i []) b = at2 U b i) (by omega) (fun t h => ?_) (fun j t hj h => ?_) _ ⟨by simp [h1], by rw [getD_set _ _ _ _ _ (by omega)]; simp, by simp, fun b h => absurd h (Nat.not_lt_zero _)⟩
      · refine Ev.succ ?_
        simp only [impl_turned.l1]
        repeat (first | ((with_reducible refine Ev.ite_pos ?_ ?_); (first | assumption | (focus omega) | (focus (simp; done)))) | ((with_reducible refine Ev.ite_neg ?_ ?_); (first | assumption | (focus omega) | (focus (simp; done)))))
        have e : t = s.set i ((List.range U.length).map fun b => at2 U b i) := by
          obtain ⟨t1, t2, t3, t4⟩ := h
          have er : t.getD i [] = (List.range U.length).map fun b => at2 U b i := by
            refine List.ext_getElem (by rw [t2]; simp) fun b k1 k2 => ?_
            have := t4 b (by omega)
            simp only [at1] at this
            rw [List.getD_eq_getElem?_getD, List.getElem?_eq_getElem k1] at this
            simpa using this
          refine List.ext_getElem (by simp [t1, h1]) fun a k1 k2 => ?_
          by_cases ea : a = i
          · subst ea
            have : t.getD a [] = t[a] := by simp [k1]
            rw [← this, er]; simp
          · have := congrArg (fun l => l.getD a []) t3
            rw [getD_set _ _ _ _ _ (by omega), getD_set _ _ _ _ _ (by omega), if_neg ea, if_neg ea] at this
            have k3 : a < s.length := by omega
            simpa [k1, k3, List.getElem_set, show ¬ (i = a) by omega] using this
        rw [e]
        exact K
      · obtain ⟨t1, t2, t3, t4⟩ := h
        have hrow := O.row j hj
        refine ⟨t.set i ((t.getD i []).set j (at2 U j i)), ⟨by simp [t1], ?_, ?_, fun b hb => ?_⟩, fun K => Ev.succ ?_⟩
        · rw [getD_set _ _ _ _ _ (by omega), if_pos rfl]; simpa using t2
        · rw [← t3]; simp
        · rw [getD_set _ _ _ _ _ (by omega), if_pos rfl]
          unfold at1
          rw [getD_set _ _ _ _ _ (by omega)]
          by_cases eb : b = j
          · rw [if_pos eb, eb]
          · rw [if_neg eb]; exact t4 b (by omega)
        · simp only [impl_turned.l1, rdL_nat, rd_nat, rd_row, hrow, t1, t2, Int.toNat_natCast]
          repeat (first | ((with_reducible refine Ev.ite_pos ?_ ?_); (first | assumption | (focus omega) | (focus (simp; done)))) | ((with_reducible refine Ev.ite_neg ?_ ?_); (first | assumption | (focus omega) | (focus (simp; done)))))
          exact K
theorem optI_neg (o : Option Nat) : (optI o < 0) ↔ o.isSome = false := by cases o <;> simp [optI] <;> omega
theorem impl_LatticeOk.ev (U : List (List Int)) : Ev (fun k => impl_LatticeOk.f k U) (latticeB U) := by
  unfold impl_LatticeOk.f latticeB
  refine Ev.bind (impl_OrderOk.ev U) ?_
  cases ho : orderB U with
  | false => repeat (first | ((with_reducible refine Ev.ite_pos ?_ ?_); (first | assumption | (focus omega) | (focus (simp; done)))) | ((with_reducible refine Ev.ite_neg ?_ ?_); (first | assumption | (focus omega) | (focus (simp; done)))))
             exact Ev.now _
  | true =>
    have O := orderB_iff.1 ho
    have hs := O.small
    repeat (first | ((with_reducible refine Ev.ite_pos ?_ ?_); (first | assumption | (focus omega) | (focus (simp; done)))) | ((with_reducible refine Ev.ite_neg ?_ ?_); (first | assumption | (focus omega) | (focus (simp; done)))))
    refine Ev.bind (impl_turned.ev O) ?_
    refine Ev.eq (Ev.all (n := U.length) (g := fun k i => impl_LatticeOk.l0 k U (turnL U) U.length i) (fun a => allN U.length fun b => (meetO U a b).isSome && (joinO U a b).isSome) (go := true) (stop := false) (by omega) (fun _ => ?_) fun a ha _ R hR => ?_) (by rw [Bool.true_and]; cases allN U.length _ <;> rfl)
    · refine Ev.succ ?_
      simp only [impl_LatticeOk.l0]
      repeat (first | ((with_reducible refine Ev.ite_pos ?_ ?_); (first | assumption | (focus omega) | (focus (simp; done)))) | ((with_reducible refine Ev.ite_neg ?_ ?_); (first | assumption | (focus omega) | (focus (simp; done)))))
      exact Ev.now _
    · refine Ev.succ ?_
      simp only [impl_LatticeOk.l0]
      repeat (first | ((with_reducible refine Ev.ite_pos ?_ ?_); (first | assumption | (focus omega) | (focus (simp; done)))) | ((with_reducible refine Ev.ite_neg ?_ ?_); (first | assumption | (focus omega) | (focus (simp; done)))))
      refine Ev.all (n := U.length) (g := fun k i => impl_LatticeOk.l1 k U (turnL U) a U.length a U.length i) _ (by omega) (fun h => ?_) fun b hb _ R2 hR2 => ?_
      · refine Ev.succ ?_
        simp only [impl_LatticeOk.l1]
        repeat (first | ((with_reducible refine Ev.ite_pos ?_ ?_); (first | assumption | (focus omega) | (focus (simp; done)))) | ((with_reducible refine Ev.ite_neg ?_ ?_); (first | assumption | (focus omega) | (focus (simp; done)))))
        exact hR (allN_iff.2 h)
      · refine Ev.succ ?_
        simp only [impl_LatticeOk.l1]
        repeat (first | ((with_reducible refine Ev.ite_pos ?_ ?_); (first | assumption | (focus omega) | (focus (simp; done)))) | ((with_reducible refine Ev.ite_neg ?_ ?_); (first | assumption | (focus omega) | (focus (simp; done)))))
        refine Ev.bind (impl_meet.ev O ha hb) ?_
        unfold mI
        cases em : meetO U a b with
        | none => refine Ev.ite_pos (by simp [optI]) ?_
                  exact Ev.eq (Ev.now _) (by simp)
        | some m =>
          refine Ev.ite_neg (by have := optI_neg (some 0); simp [optI]) ?_
          refine Ev.bind (impl_meet.ev_turn O ha hb) ?_
          unfold jI
          cases ej : joinO U a b with
          | none => refine Ev.ite_pos (by simp [optI]) ?_
                    exact Ev.eq (Ev.now _) (by simp)
          | some j =>
            refine Ev.ite_neg (by have := optI_neg (some 0); simp [optI]) ?_
            exact Ev.eq (hR2 (by simp [em, ej])) (by simp)
theorem impl_LeastOf.ev (U : List (List Int)) : Ev (fun k => impl_LeastOf.f k U) (if orderB U = true then (optI (leastO U), (leastO U).isSome) else (-1, false)) := by
  unfold impl_LeastOf.f
  refine Ev.bind (impl_OrderOk.ev U) ?_
  cases ho : orderB U with
  | false => repeat (first | ((with_reducible refine Ev.ite_pos ?_ ?_); (first | assumption | (focus omega) | (focus (simp; done)))) | ((with_reducible refine Ev.ite_neg ?_ ?_); (first | assumption | (focus omega) | (focus (simp; done)))))
             exact Ev.now _
  | true =>
    have O := orderB_iff.1 ho
    have hs := O.small
    repeat (first | ((with_reducible refine Ev.ite_pos ?_ ?_); (first | assumption | (focus omega) | (focus (simp; done)))) | ((with_reducible refine Ev.ite_neg ?_ ?_); (first | assumption | (focus omega) | (focus (simp; done)))))
    refine Ev.eq (Ev.find (n := U.length) (g := fun k i => impl_LeastOf.l0 k U U.length i) (fun a => allN U.length fun b => leB U a b) (none' := (-1, false)) (some' := fun i => ((i : Int), true)) (by omega) (fun _ => ?_) fun a ha _ R hR => ?_) (by unfold leastO; cases findN U.length _ <;> rfl)
    · refine Ev.succ ?_
      simp only [impl_LeastOf.l0]
      repeat (first | ((with_reducible refine Ev.ite_pos ?_ ?_); (first | assumption | (focus omega) | (focus (simp; done)))) | ((with_reducible refine Ev.ite_neg ?_ ?_); (first | assumption | (focus omega) | (focus (simp; done)))))
      exact Ev.now _
    · refine Ev.succ ?_
      simp only [impl_LeastOf.l0, rdL_nat, O.row a ha]
      repeat (first | ((with_reducible refine Ev.ite_pos ?_ ?_); (first | assumption | (focus omega) | (focus (simp; done)))) | ((with_reducible refine Ev.ite_neg ?_ ?_); (first | assumption | (focus omega) | (focus (simp; done)))))
      have key : ∀ d i, i + d = U.length → ∀ fl : Bool, (fl && allFrom U.length (fun b => leB U a b) i) = allN U.length (fun b => leB U a b) → Ev (fun k => impl_LeastOf.l1 k a fl U U.length a (U.getD a []) U.length i) (if allN U.length (fun b => leB U a b) = true then ((a : Int), true) else R) := by
        intro d
        induction d with
        | zero =>
          intro i hi fl hfl
          refine Ev.succ ?_
          simp only [impl_LeastOf.l1]
          rw [allFrom_ge (by omega), Bool.and_true] at hfl
          rw [hfl]
          repeat (first | ((with_reducible refine Ev.ite_pos ?_ ?_); (first | assumption | (focus omega) | (focus (simp; done)))) | ((with_reducible refine Ev.ite_neg ?_ ?_); (first | assumption | (focus omega) | (focus (simp; done)))))
          cases ha' : allN U.length (fun b => leB U a b) with
          | true => repeat (first | ((with_reducible refine Ev.ite_pos ?_ ?_); (first | assumption | (focus omega) | (focus (simp; done)))) | ((with_reducible refine Ev.ite_neg ?_ ?_); (first | assumption | (focus omega) | (focus (simp; done)))))
                    exact Ev.now _
          | false => repeat (first | ((with_reducible refine Ev.ite_pos ?_ ?_); (first | assumption | (focus omega) | (focus (simp; done)))) | ((with_reducible refine Ev.ite_neg ?_ ?_); (first | assumption | (focus omega) | (focus (simp; done)))))
                     exact hR ha'
        | succ d ih =>
          intro i hi fl hfl
          rw [allFrom_lt (by omega)] at hfl
          refine Ev.succ ?_
          have rl := O.row a ha
          simp only [impl_LeastOf.l1, rd_nat, rd_row, wrap_nat (show i < 4611686018427387904 by omega)]
          repeat (first | ((with_reducible refine Ev.ite_pos ?_ ?_); (first | assumption | (focus omega) | (focus (simp; done)))) | ((with_reducible refine Ev.ite_neg ?_ ?_); (first | assumption | (focus omega) | (focus (simp; done)))))
          cases fl with
          | true => repeat (first | ((with_reducible refine Ev.ite_pos ?_ ?_); (first | assumption | (focus omega) | (focus (simp; done)))) | ((with_reducible refine Ev.ite_neg ?_ ?_); (first | assumption | (focus omega) | (focus (simp; done)))))
                    exact ih (i + 1) (by omega) _ hfl
          | false => repeat (first | ((with_reducible refine Ev.ite_pos ?_ ?_); (first | assumption | (focus omega) | (focus (simp; done)))) | ((with_reducible refine Ev.ite_neg ?_ ?_); (first | assumption | (focus omega) | (focus (simp; done)))))
                     exact ih (i + 1) (by omega) _ (by rw [← hfl]; simp)
      exact key U.length 0 (by omega) true (by rw [allFrom_zero, Bool.true_and])
theorem told_facts (U : List (List Int)) : ∃ k, ToldFacts k U := by
  cases hl : latticeB U with
  | false =>
    obtain ⟨k, hk⟩ := (impl_LatticeOk.ev U).rounds
    exact ⟨k, by rw [hk, hl], fun h => by rw [hl] at h; exact absurd h (by simp), fun h => by rw [hl] at h; exact absurd h (by simp), fun h => by rw [hl] at h; exact absurd h (by simp), fun h => by rw [hl] at h; exact absurd h (by simp)⟩
  | true =>
    have O := latticeB_order hl
    obtain ⟨k1, h1⟩ := impl_LatticeOk.ev U
    obtain ⟨k2, h2⟩ := impl_LeastOf.ev U
    have hm : ∃ K, ∀ a b : Nat, a < U.length → b < U.length → ∀ k, K ≤ k → impl_meet.f k U a b = some (mI U a b) := Ev.all2 U.length fun a b ha hb => impl_meet.ev O ha hb
    have hj : ∃ K, ∀ a b : Nat, a < U.length → b < U.length → ∀ k, K ≤ k → impl_meet.f k (turnL U) a b = some (jI U a b) := Ev.all2 U.length fun a b ha hb => impl_meet.ev_turn O ha hb
    obtain ⟨k3, h3⟩ := hm
    obtain ⟨k4, h4⟩ := hj
    obtain ⟨k5, h5⟩ := impl_turned.ev O
    refine ⟨k1 + k2 + k3 + k4 + k5, ?_, fun _ => h5 _ (by omega), fun _ a b ha hb => h3 a b ha hb _ (by omega), fun _ a b ha hb => h4 a b ha hb _ (by omega), fun _ => ?_⟩
    · exact h1 _ (by omega)
    · have := h2 (k1 + k2 + k3 + k4 + k5) (by omega)
      rw [if_pos (orderB_iff.2 O)] at this
      exact this
end Go.Proofs.Ythideghgdmokkaa.Print
end
section
namespace Go.Proofs.Ythideghgdmokkaa.Print
open Go.RowKit Go.Proofs.YthideghgdmokkaaW.PrintWords Go.Proofs.YthideghgdmokkaaW.PrintLast Go.Proofs.YthideghgdmokkaaW.PrintMore
attribute [local go_sem] max2_int min2_int max_two min_two max_three min_three max_four min_four   -- for this text's walks alone
set_option linter.unusedVariables false
set_option linter.unusedSimpArgs false
def laws_toIntS.l0 : Nat → List Int → List Int → Int → Option (List Int)
 | 0, _, _, _ => none
 | k + 1, x0, x3, x4 => if x4 < (x0.length : Int) then (if 0 ≤ x4 then (if x4 < (x3.length : Int) then (laws_toIntS.l0 k x0 (x3.set (x4 : Int).toNat (rd x0 x4)) (wrap64 (x4 + 1))) else (none)) else (none)) else (some x3)
def laws_toIntS.f (k : Nat) (l0 : List Int) : Option (List Int) := if 0 ≤ (l0.length : Int) then (if ((l0.length : Int) : Int).toNat ≤ 35184372088832 then (laws_toIntS.l0 k l0 (List.replicate ((l0.length : Int) : Int).toNat 0) 0) else (none)) else (none)
set_option maxHeartbeats 8000000 in
set_option maxRecDepth 100000 in
theorem laws_toIntS.calls (k : Nat) (A0 : Option Addr) (c0 : Nat) (l0 : List Int) (r : List Int) (w : World) (hr0 : Kd.C (Kd.int .i64) w A0 l0.length l0) (hc0 : l0.length ≤ c0) (h : laws_toIntS.f k l0 = some r) :
  Calls Try.prog 56 #[.slice A0 l0.length c0] w fun e w' => ∃ v0_ : Value, e = .returned (v0_) ∧ Kd.R (Kd.int .i64) 3 w' w.heap.size (fun _ => True) v0_ r ∧ Below w.heap.size w w' := by
 have HR0 := Aside0.mk hr0
 have HC0 := Aside0.mk hc0
 clear hr0 hc0
 have HB := Aside0.mk (Below.refl w.heap.size w)
 have H : (if 0 ≤ (l0.length : Int) then (if ((l0.length : Int) : Int).toNat ≤ 35184372088832 then (laws_toIntS.l0 k l0 (List.replicate ((l0.length : Int) : Int).toNat 0) 0) else (none)) else (none)) = some r := h
 clear h
 by_cases c2 : 0 ≤ (l0.length : Int)
 ·rw [if_pos c2] at H
  have c2b0 := eq_true c2
  have c2b1 : decide (0 ≤ (l0.length : Int)) = true := decide_eq_true c2
  clear c2
  by_cases c3 : ((l0.length : Int) : Int).toNat ≤ 35184372088832
  ·rw [if_pos c3] at H
   have c3b0 := eq_true c3
   have c3b1 : decide (((l0.length : Int) : Int).toNat ≤ 35184372088832) = true := decide_eq_true c3
   clear c3
   obtain ⟨y195, hy195⟩ : ∃ y_ : List Int, y_ = (List.replicate ((l0.length : Int) : Int).toNat 0) := ⟨_, rfl⟩
   replace H : (laws_toIntS.l0 k l0 y195 0) = some r := by first | (rw [hy195]; with_reducible exact H) | (have H2_ := (Option.bind_some _ _).symm.trans H; rw [hy195]; with_reducible exact H2_) | (have H2_ := (Option.bind_some _ _).symm.trans H; with_reducible exact H2_) | with_reducible exact H | (rw [hy195]; exact H) | exact H
   have Ny195 := Aside0.mk hy195
   clear hy195
   have H' := Aside0.mk H
   clear H
   go_enter Try.func56, Try.ntmps56
   go_wp2_with (first | ((with_reducible refine gate_dst (N := 7) rfl ?_); refine Kd.R_make (Kd.int .i64) _ 3 rfl (N := 7) rfl 23 _ _ rfl (l0.length : Int) rfl rfl Try.underlying23 (.int .i64 0) 8 info3 rfl (by decide) (by omega) 0 (ok := fun _ => True) (okp := fun _ => True) rfl (fun _ hk => hk) trivial (of_decide_eq_true (by first | (with_reducible assumption) | assumption)) (Nat.le_trans (Nat.mul_le_mul_right _ (of_decide_eq_true (by first | (with_reducible assumption) | assumption) : (l0.length : Int).toNat ≤ 35184372088832)) (by omega)) (Below.refl _ _) (Nat.le_refl _) ?_; intro v196 w4 ho5 hb hg_ hnew_; clear hg_ hnew_; (first | rw [← Ny195.out] at ho5 | (simp only [Int.reduceToNat] at ho5; rw [← Ny195.out] at ho5)); have n0_ := Aside0.mk (Kd.R_lower ho5 (below_size (by repeat (first | (with_reducible first | exact HB.out | apply below_alloc | apply pw_below_drewN | apply below_drew1) | exact HB.out)))); have n1_ := Aside0.mk (below_step (by repeat (first | (with_reducible first | exact HB.out | apply below_alloc | apply pw_below_drewN | apply below_drew1) | exact HB.out)) hb); clear HB; have HO197 := n0_; have HB := n1_; clear n0_ n1_; clear hb ho5))
   go_loopg [4] k (fun kq v4 w' => ∃ (x3_1 : List Int) (x4_1 : Int), v4 = .int .i64 x4_1 ∧ Aside0 (laws_toIntS.l0 kq l0 x3_1 x4_1 = some r) ∧ Aside0 (kq ≤ k) ∧ Aside0 (Kd.R (Kd.int .i64) 3 w' w.heap.size (fun _ => True) v196 x3_1) ∧ Aside0 (Below w.heap.size w w'))
   case atStart => exact ⟨(y195), (0), (by first | rfl | (simp; done) | (simp [*]; done)), H', ⟨Nat.le_refl _⟩, ⟨by (with_reducible repeat (first | apply Kd.R_alloc | apply Kd.R_drewN | apply Kd.R_drew)); exact HO197.out⟩, ⟨by repeat (first | (with_reducible first | exact HB.out | apply below_alloc | apply pw_below_drewN | apply below_drew1) | exact HB.out)⟩⟩
   case round =>
    clear H'
    try clear c2
    try clear c2b0
    try clear c2b1
    try clear p2
    try clear c3
    try clear c3b0
    try clear c3b1
    try clear c5
    obtain ⟨x3_1, x4_1, rfl, HA, HK1, HO_3, HB⟩ := hrel
    cases gk with
    | zero => exact absurd HA.out (by simp [laws_toIntS.l0])
    | succ k1 =>
     have H := HA.out
     clear HA
     simp only [laws_toIntS.l0] at H
     by_cases c6 : x4_1 < (l0.length : Int)
     ·rw [if_pos c6] at H
      have c6b0 : decide (x4_1 < (l0.length : Int)) = true := decide_eq_true c6
      clear c6
      by_cases c7 : 0 ≤ x4_1
      ·rw [if_pos c7] at H
       have c7b0 : decide (0 ≤ x4_1) = true := decide_eq_true c7
       clear c7
       by_cases c8 : x4_1 < (x3_1.length : Int)
       ·rw [if_pos c8] at H
        have c8b0 : decide (x4_1 < (x3_1.length : Int)) = true := decide_eq_true c8
        clear c8
        obtain ⟨y199, hy199⟩ : ∃ y_ : List Int, y_ = (x3_1.set (x4_1 : Int).toNat (rd l0 x4_1)) := ⟨_, rfl⟩
        replace H : (laws_toIntS.l0 k1 l0 y199 (wrap64 (x4_1 + 1))) = some r := by first | (rw [hy199]; with_reducible exact H) | (have H2_ := (Option.bind_some _ _).symm.trans H; rw [hy199]; with_reducible exact H2_) | (have H2_ := (Option.bind_some _ _).symm.trans H; with_reducible exact H2_) | with_reducible exact H | (rw [hy199]; exact H) | exact H
        have Ny199 := Aside0.mk hy199
        clear hy199
        have H' := Aside0.mk H
        clear H
        have p198 : 0 ≤ (x4_1 : Int) := of_decide_eq_true (by first | (with_reducible assumption) | assumption)
        have q198 : x4_1 < (l0.length : Int) := of_decide_eq_true (by first | (with_reducible assumption) | assumption)
        obtain ⟨ad198, e198, hx198_0⟩ := Kd.at_int HR0.out x4_1 p198 q198
        cases e198
        replace hx198_0 := (HB.out.cell (World.block_lt_of_cell? w _ hx198_0)).trans hx198_0
        replace p198 := eq_true p198
        replace q198 := eq_true q198
        have p9 : 0 ≤ (x4_1 : Int) := of_decide_eq_true (by first | (with_reducible assumption) | assumption)
        have q9 : (x4_1 : Int) < ((x3_1.length : Int) : Int) := of_decide_eq_true (by first | (with_reducible assumption) | assumption)
        obtain ⟨go9, co9, eo9, gb9, gl9, cl9, HG9⟩ := Kd.R_form HO_3.out (by omega)
        (first | cases eo9 | (injection eo9 with ea_ en_ ec_; (first | subst ea_ | (injection ea_ with ea_; subst ea_)); subst ec_; clear en_))
        have GB9 := Aside0.mk gb9
        have GG9 := Aside0.mk HG9
        clear gb9 gl9 HG9
        obtain ⟨hx9_0, hf9_0⟩ := Kd.R_celln 0 HO_3.out (x4_1 : Int) p9 q9
        replace p9 := eq_true p9
        replace q9 := eq_true q9
        have HP10 := Kd.R_putg HO_3.out (x4_1 : Int) (rd l0 x4_1)
        go_wp2_with (first | ((with_reducible refine gate_store (t := 3) (p := 20) rfl ?_); refine store_event (t := 3) (p := 20) (v := ?vo_w11) (w1 := (wr.setCell ⟨go9, (x4_1 : Int).toNat, none⟩ (.int .i64 (rd l0 x4_1)))) ?hg ?ho ?hn ?hr ?_; (case ho => rfl); (case hg => rfl); (case hn => rfl); (case hr => first | (go_simp; done) | (go_simp; rfl)); intro w11 hw; have hg : wr.grownBy w11 (some go9) := (by rw [hw]; exact HP10.2); have hp_ : Kd.R (Kd.int .i64) 3 w11 w.heap.size (fun _ => True) (.slice (some ⟨go9, 0, none⟩) x3_1.length co9) y199 := (by rw [hw, Ny199.out]; exact HP10.1); clear HP10; have n0_ := Aside0.mk (hp_); have n1_ := Aside0.mk ((by rw [hw]; exact below_set (HB.out) GB9.out : Below w.heap.size w w11)); clear HO_3; clear HB; have HO_3 := n0_; have HB := n1_; clear n0_ n1_; clear hg hw hp_))
        go_roundg k1
        case measure => have := HK1.out; omega
        case rel => exact ⟨(y199), (wrap64 (x4_1 + 1)), (by first | rfl | (simp; done) | (simp [*]; done)), H', ⟨by have := HK1.out; omega⟩, ⟨by (with_reducible repeat (first | apply Kd.R_alloc | apply Kd.R_drewN | apply Kd.R_drew)); exact HO_3.out⟩, ⟨by repeat (first | (with_reducible first | exact HB.out | apply below_alloc | apply pw_below_drewN | apply below_drew1) | exact HB.out)⟩⟩
       ·rw [if_neg c8] at H
        exact absurd H (by simp)
      ·rw [if_neg c7] at H
       exact absurd H (by simp)
     ·rw [if_neg c6] at H
      have c6b0 : decide (x4_1 < (l0.length : Int)) = false := decide_eq_false c6
      clear c6
      obtain rfl := Option.some.inj H
      go_wp2
      go_ret
      exact ⟨_, by first | rfl | (simp [errW_none, errW_some] <;> rfl) | (simp [*, errW_none, errW_some] <;> rfl), by (with_reducible repeat (first | apply Kd.R_alloc | apply Kd.R_drewN | apply Kd.R_drew)); exact HO_3.out, by repeat (first | (with_reducible first | exact HB.out | apply below_alloc | apply pw_below_drewN | apply below_drew1) | exact HB.out)⟩
  ·rw [if_neg c3] at H
   exact absurd H (by simp)
 ·rw [if_neg c2] at H
  exact absurd H (by simp)
end Go.Proofs.Ythideghgdmokkaa.Print
end
section
namespace Go.Proofs.Ythideghgdmokkaa.Print
open Go.RowKit Go.Proofs.YthideghgdmokkaaW.PrintWords Go.Proofs.YthideghgdmokkaaW.PrintLast Go.Proofs.YthideghgdmokkaaW.PrintMore
attribute [local go_sem] max2_int min2_int max_two min_two max_three min_three max_four min_four   -- for this text's walks alone
set_option linter.unusedVariables false
set_option linter.unusedSimpArgs false
def laws_toIntSS.l0 : Nat → List (List Int) → List (List Int) → Int → Option ((List (List Int)))
 | 0, _, _, _ => none
 | k + 1, x0, x3, x4 => if x4 < (x0.length : Int) then (if 0 ≤ x4 then ((laws_toIntS.f k (rd_L1 x0 x4)).bind fun t204 => (if x4 < (x3.length : Int) then (laws_toIntSS.l0 k x0 (x3.set (x4 : Int).toNat t204) (wrap64 (x4 + 1))) else (none))) else (none)) else (some x3)
def laws_toIntSS.f (k : Nat) (l0 : List (List Int)) : Option ((List (List Int))) := if 0 ≤ (l0.length : Int) then (if ((l0.length : Int) : Int).toNat ≤ 11728124029610 then (laws_toIntSS.l0 k l0 (List.replicate ((l0.length : Int) : Int).toNat []) 0) else (none)) else (none)
set_option maxHeartbeats 8000000 in
set_option maxRecDepth 100000 in
theorem laws_toIntSS.calls (k : Nat) (A0 : Option Addr) (c0 : Nat) (l0 : List (List Int)) (r : List (List Int)) (w : World) (hr0 : Kd.C (Kd.slice 3 (Kd.int .i64)) w A0 l0.length l0) (hc0 : l0.length ≤ c0) (h : laws_toIntSS.f k l0 = some r) :
  Calls Try.prog 55 #[.slice A0 l0.length c0] w fun e w' => ∃ v0_ : Value, e = .returned (v0_) ∧ Kd.S (Kd.slice 3 (Kd.int .i64)) 23 w' w.heap.size (fun _ => True) v0_ r ∧ Below w.heap.size w w' := by
 have HR0 := Aside0.mk hr0
 have HC0 := Aside0.mk hc0
 clear hr0 hc0
 have HB := Aside0.mk (Below.refl w.heap.size w)
 have H : (if 0 ≤ (l0.length : Int) then (if ((l0.length : Int) : Int).toNat ≤ 11728124029610 then (laws_toIntSS.l0 k l0 (List.replicate ((l0.length : Int) : Int).toNat []) 0) else (none)) else (none)) = some r := h
 clear h
 by_cases c2 : 0 ≤ (l0.length : Int)
 ·rw [if_pos c2] at H
  have c2b0 := eq_true c2
  have c2b1 : decide (0 ≤ (l0.length : Int)) = true := decide_eq_true c2
  clear c2
  by_cases c3 : ((l0.length : Int) : Int).toNat ≤ 11728124029610
  ·rw [if_pos c3] at H
   have c3b0 := eq_true c3
   have c3b1 : decide (((l0.length : Int) : Int).toNat ≤ 11728124029610) = true := decide_eq_true c3
   clear c3
   obtain ⟨y200, hy200⟩ : ∃ y_ : List (List Int), y_ = (List.replicate ((l0.length : Int) : Int).toNat []) := ⟨_, rfl⟩
   replace H : (laws_toIntSS.l0 k l0 y200 0) = some r := by first | (rw [hy200]; with_reducible exact H) | (have H2_ := (Option.bind_some _ _).symm.trans H; rw [hy200]; with_reducible exact H2_) | (have H2_ := (Option.bind_some _ _).symm.trans H; with_reducible exact H2_) | with_reducible exact H | (rw [hy200]; exact H) | exact H
   have Ny200 := Aside0.mk hy200
   clear hy200
   have H' := Aside0.mk H
   clear H
   go_enter Try.func55, Try.ntmps55
   go_wp2_with (first | ((with_reducible refine gate_dst (N := 7) rfl ?_); refine Kd.S_make (Kd.slice 3 (Kd.int .i64)) _ 23 rfl (N := 7) rfl 22 _ _ rfl (l0.length : Int) rfl rfl Try.underlying22 (.slice none 0 0) 24 info23 rfl (by decide) (by omega) [] (ok := fun _ => True) (okp := fun _ => True) ⟨_, rfl, Kd.R_nil _ _ _ _ _⟩ (fun _ hk => hk) trivial (of_decide_eq_true (by first | (with_reducible assumption) | assumption)) (Nat.le_trans (Nat.mul_le_mul_right _ (of_decide_eq_true (by first | (with_reducible assumption) | assumption) : (l0.length : Int).toNat ≤ 11728124029610)) (by omega)) (Below.refl _ _) (Nat.le_refl _) ?_; intro v201 w4 ho5 hb hg_ hnew_; clear hg_ hnew_; (first | rw [← Ny200.out] at ho5 | (simp only [Int.reduceToNat] at ho5; rw [← Ny200.out] at ho5)); have n0_ := Aside0.mk (Kd.S_lower ho5 (below_size (by repeat (first | (with_reducible first | exact HB.out | apply below_alloc | apply pw_below_drewN | apply below_drew1) | exact HB.out)))); have n1_ := Aside0.mk (below_step (by repeat (first | (with_reducible first | exact HB.out | apply below_alloc | apply pw_below_drewN | apply below_drew1) | exact HB.out)) hb); clear HB; have HO202 := n0_; have HB := n1_; clear n0_ n1_; clear hb ho5))
   go_loopg [4] k (fun kq v4 w' => ∃ (x3_1 : List (List Int)) (x4_1 : Int), v4 = .int .i64 x4_1 ∧ Aside0 (laws_toIntSS.l0 kq l0 x3_1 x4_1 = some r) ∧ Aside0 (kq ≤ k) ∧ Aside0 (Kd.S (Kd.slice 3 (Kd.int .i64)) 23 w' w.heap.size (fun _ => True) v201 x3_1) ∧ Aside0 (Below w.heap.size w w'))
   case atStart => exact ⟨(y200), (0), (by first | rfl | (simp; done) | (simp [*]; done)), H', ⟨Nat.le_refl _⟩, ⟨by (with_reducible repeat (first | apply Kd.S_alloc | apply Kd.S_drewN | apply Kd.S_drew)); exact HO202.out⟩, ⟨by repeat (first | (with_reducible first | exact HB.out | apply below_alloc | apply pw_below_drewN | apply below_drew1) | exact HB.out)⟩⟩
   case round =>
    clear H'
    try clear c2
    try clear c2b0
    try clear c2b1
    try clear p2
    try clear c3
    try clear c3b0
    try clear c3b1
    try clear c5
    obtain ⟨x3_1, x4_1, rfl, HA, HK1, HO_3, HB⟩ := hrel
    cases gk with
    | zero => exact absurd HA.out (by simp [laws_toIntSS.l0])
    | succ k1 =>
     have H := HA.out
     clear HA
     simp only [laws_toIntSS.l0] at H
     by_cases c6 : x4_1 < (l0.length : Int)
     ·rw [if_pos c6] at H
      have c6b0 : decide (x4_1 < (l0.length : Int)) = true := decide_eq_true c6
      clear c6
      by_cases c7 : 0 ≤ x4_1
      ·rw [if_pos c7] at H
       have c7b0 : decide (0 ≤ x4_1) = true := decide_eq_true c7
       clear c7
       replace H := Option.bind_eq_some_iff.mp H
       obtain ⟨t204, A80, H⟩ := H
       replace H : (if x4_1 < (x3_1.length : Int) then (laws_toIntSS.l0 k1 l0 (x3_1.set (x4_1 : Int).toNat t204) (wrap64 (x4_1 + 1))) else (none)) = some r := H
       have A8 := Aside0.mk A80
       clear A80
       by_cases c9 : x4_1 < (x3_1.length : Int)
       ·rw [if_pos c9] at H
        have c9b0 : decide (x4_1 < (x3_1.length : Int)) = true := decide_eq_true c9
        clear c9
        obtain ⟨y207, hy207⟩ : ∃ y_ : List (List Int), y_ = (x3_1.set (x4_1 : Int).toNat t204) := ⟨_, rfl⟩
        replace H : (laws_toIntSS.l0 k1 l0 y207 (wrap64 (x4_1 + 1))) = some r := by first | (rw [hy207]; with_reducible exact H) | (have H2_ := (Option.bind_some _ _).symm.trans H; rw [hy207]; with_reducible exact H2_) | (have H2_ := (Option.bind_some _ _).symm.trans H; with_reducible exact H2_) | with_reducible exact H | (rw [hy207]; exact H) | exact H
        have Ny207 := Aside0.mk hy207
        clear hy207
        have H' := Aside0.mk H
        clear H
        have p203 : 0 ≤ (x4_1 : Int) := of_decide_eq_true (by first | (with_reducible assumption) | assumption)
        have q203 : x4_1 < (l0.length : Int) := of_decide_eq_true (by first | (with_reducible assumption) | assumption)
        obtain ⟨ad203, A203_0, c203_0, e203, hx203_0, hl203_0, hi203_0⟩ := at_L1 HR0.out x4_1 p203 q203
        cases e203
        replace hx203_0 := (HB.out.cell (World.block_lt_of_cell? w _ hx203_0)).trans hx203_0
        have HR203_0 := Aside0.mk hi203_0
        have HC203_0 := Aside0.mk hl203_0
        clear hi203_0 hl203_0
        replace p203 := eq_true p203
        replace q203 := eq_true q203
        go_wp2_with (first | ((with_reducible refine gate_callee (f := 56) rfl ?_); refine goesL_ (some 20) rfl rfl Try.func56 (by kernel_rfl) rfl #[.slice A203_0 (rd_L1 l0 x4_1).length c203_0] rfl (by (try simp only [List.map_toArray, List.map_cons, List.map_nil]); first | done | rfl | (simp only [List.length_drop, List.length_take]; rfl)) ?_; (with_reducible refine (laws_toIntS.calls k1 _ _ (rd_L1 l0 x4_1) t204 _ ?side1 ?side2 A8.out).mono ?_); (case side1 => repeat (first | exact (Kd.C_below HR203_0.out HB.out) | (with_reducible refine Kd.C_alloc ?_ _) | (with_reducible refine Kd.C_drewN ?_ _) | (with_reducible refine Kd.C_drew ?_))); (case side2 => exact HC203_0.out); rintro e w11 ⟨v205, rfl, ho0, hb⟩; refine ⟨_, rfl, ?_⟩; have n0_ := Aside0.mk (Kd.S_elder' (by (with_reducible repeat (first | apply Kd.S_alloc | apply Kd.S_drewN | apply Kd.S_drew)); exact HO_3.out) (Kd.R_base ho0) hb); have n1_ := Aside0.mk (Kd.R_lower ho0 (below_size (by repeat (first | (with_reducible first | exact HB.out | apply below_alloc | apply pw_below_drewN | apply below_drew1) | exact HB.out)))); have n2_ := Aside0.mk (below_step (by repeat (first | (with_reducible first | exact HB.out | apply below_alloc | apply pw_below_drewN | apply below_drew1) | exact HB.out)) hb); clear HO_3; clear HB; have HO_3 := n0_; have HO206 := n1_; have HB := n2_; clear n0_ n1_ n2_; (try clear hb); (try clear hb2); (try clear hk); (try clear hi); (try clear ho0); have p10 : 0 ≤ (x4_1 : Int) := of_decide_eq_true (by first | (with_reducible assumption) | assumption); have q10 : (x4_1 : Int) < ((x3_1.length : Int) : Int) := of_decide_eq_true (by first | (with_reducible assumption) | assumption); obtain ⟨go10, co10, eo10, gb10, gl10, cl10, HG10⟩ := Kd.S_form HO_3.out (by omega); (first | cases eo10 | (injection eo10 with ea_ en_ ec_; (first | subst ea_ | (injection ea_ with ea_; subst ea_)); subst ec_; clear en_)); have GB10 := Aside0.mk gb10; have GG10 := Aside0.mk HG10; clear gb10 gl10 HG10; obtain ⟨_, ce10, hcl10, hM10, hcc10, hfr10, _, _⟩ := Kd.S_elem HO_3.out [] (x4_1 : Int) p10 q10; obtain ⟨ve10_0, rfl, ge10_0⟩ := hM10; have hx10_0 := hcc10 0 _ rfl; have hf10_0 := hfr10 0; (try simp only [show ((Kd.slice 3 (Kd.int .i64))).sz = 1 from rfl, Nat.mul_one, Nat.add_zero] at hx10_0); (try simp only [show ((Kd.slice 3 (Kd.int .i64))).sz = 1 from rfl, Nat.mul_one, Nat.add_zero] at hf10_0); clear hcl10 hcc10 hfr10; (try clear hM10); replace p10 := eq_true p10; replace q10 := eq_true q10; have n_ := Aside0.mk (Kd.S_mono (ok' := (fun k_ => some k_ ≠ (v205 : Value).ownBlock)) HO_3.out (fun k_ hk => hk.2)); clear HO_3; have HO_3 := n_; clear n_; have HX12 := Aside0.mk (show Kd.S (Kd.slice 3 (Kd.int .i64)) 23 w11 w.heap.size (fun k_ => ((fun _ => True)) k_ ∧ ¬ ((fun k_ => some k_ = (v205 : Value).ownBlock)) k_) (.slice (some ⟨go10, 0, none⟩) x3_1.length co10) x3_1 from (by (with_reducible repeat (first | apply Kd.S_alloc | apply Kd.S_drewN | apply Kd.S_drew)); exact Kd.S_mono HO_3.out (fun k_ hk => ⟨trivial, fun e_ => hk e_⟩))); obtain ⟨oki12, ce12, hcl12, hM12, hcc12, hfr12, hoki12, hH12⟩ := Kd.S_elem HX12.out [] (x4_1 : Int) (of_decide_eq_true (by first | (with_reducible assumption) | assumption)) (by have h_ : (x4_1 : Int) < ((x3_1.length : Int) : Int) := of_decide_eq_true (by first | (with_reducible assumption) | assumption); first | exact h_ | (have e_ := (Kd.S_reads' HO_3.out).1; omega) | simpa using h_); obtain ⟨ve12_0, rfl, ge12_0⟩ := hM12; have HP12 := Kd.S_seg hH12 (of_decide_eq_true (by first | (with_reducible assumption) | assumption)) (by have h_ : (x4_1 : Int) < ((x3_1.length : Int) : Int) := of_decide_eq_true (by first | (with_reducible assumption) | assumption); first | exact h_ | (have e_ := (Kd.S_reads' HO_3.out).1; omega) | simpa using h_) (seg := [v205]) (j := 0) (show 1 ≤ 1 from by decide) (x' := t204) (Kd.M_row (Kd.R_mono (Kd.R_tight rfl (Kd.R_mono (ok' := fun k_ => ((fun _ => True)) k_ ∧ k_ ≠ go10) (Kd.R_apart' (HO206.out) (Kd.S_typed HO_3.out) (by decide)) (fun k_ hk => ⟨trivial, fun e_ => (hk.2) (by rw [e_]; rfl)⟩))) (fun _ h_ => Or.inr (h_)))) (fun _ hk => hk) (fun k_ hk_ => ((Kd.R_mono (ok' := fun k_ => ((fun _ => True)) k_ ∧ k_ ≠ go10) (Kd.R_apart' (HO206.out) (Kd.S_typed HO_3.out) (by decide)) (fun k_ hk => ⟨trivial, fun e_ => (hk.2) (by rw [e_]; rfl)⟩))).1 k_ hk_.symm); have hx12_0 := hcc12 0 _ rfl; (try simp only [show ((Kd.slice 3 (Kd.int .i64))).sz = 1 from rfl, Nat.mul_one, Nat.add_zero] at hx12_0); have hf12_0 := hfr12 0; (try simp only [show ((Kd.slice 3 (Kd.int .i64))).sz = 1 from rfl, Nat.mul_one, Nat.add_zero] at hf12_0); clear hcl12 hcc12 hfr12 hoki12 hH12; (try clear hM12); (try simp only [show ((Kd.slice 3 (Kd.int .i64))).sz = 1 from rfl, Nat.mul_one, Nat.add_zero] at HP12)) | ((with_reducible refine gate_store (t := 23) (p := 21) rfl ?_); refine store_event (t := 23) (p := 21) (v := ?vo_w13) (w1 := (w11.setCell ⟨go10, (x4_1 : Int).toNat, none⟩ (v205))) ?hg ?ho ?hn ?hr ?_; (case ho => rfl); (case hg => rfl); (case hn => rfl); (case hr => first | (go_simp; done) | (go_simp; rfl) | (obtain ⟨a_, c_, e_⟩ := Kd.R_slice (Aside0.out ‹Aside0 (Kd.R _ _ _ _ _ v205 _)›); rw [e_]; first | (go_simp; done) | (go_simp; rfl))); intro w13 hw; have hg : w11.grownBy w13 (some go10) := (by rw [hw]; exact HP12.2); have hp_ : Kd.S (Kd.slice 3 (Kd.int .i64)) 23 w13 w.heap.size (fun _ => True) (.slice (some ⟨go10, 0, none⟩) x3_1.length co10) y207 := (by rw [hw, Ny207.out]; exact HP12.1); clear HP12; have n0_ := Aside0.mk (hp_); have n1_ := Aside0.mk ((by rw [hw]; exact below_set (HB.out) GB10.out : Below w.heap.size w w13)); clear HO_3; clear HB; clear HO206; have HO_3 := n0_; have HB := n1_; clear n0_ n1_; clear hg hw hp_))
        go_roundg k1
        case measure => have := HK1.out; omega
        case rel => exact ⟨(y207), (wrap64 (x4_1 + 1)), (by first | rfl | (simp; done) | (simp [*]; done)), H', ⟨by have := HK1.out; omega⟩, ⟨by (with_reducible repeat (first | apply Kd.S_alloc | apply Kd.S_drewN | apply Kd.S_drew)); exact HO_3.out⟩, ⟨by repeat (first | (with_reducible first | exact HB.out | apply below_alloc | apply pw_below_drewN | apply below_drew1) | exact HB.out)⟩⟩
       ·rw [if_neg c9] at H
        exact absurd H (by simp)
      ·rw [if_neg c7] at H
       exact absurd H (by simp)
     ·rw [if_neg c6] at H
      have c6b0 : decide (x4_1 < (l0.length : Int)) = false := decide_eq_false c6
      clear c6
      obtain rfl := Option.some.inj H
      go_wp2
      go_ret
      exact ⟨_, by first | rfl | (simp [errW_none, errW_some] <;> rfl) | (simp [*, errW_none, errW_some] <;> rfl), by (with_reducible repeat (first | apply Kd.S_alloc | apply Kd.S_drewN | apply Kd.S_drew)); exact HO_3.out, by repeat (first | (with_reducible first | exact HB.out | apply below_alloc | apply pw_below_drewN | apply below_drew1) | exact HB.out)⟩
  ·rw [if_neg c3] at H
   exact absurd H (by simp)
 ·rw [if_neg c2] at H
  exact absurd H (by simp)
end Go.Proofs.Ythideghgdmokkaa.Print
end
section
namespace Go.Proofs.Ythideghgdmokkaa.Print
open Go.RowKit Go.Proofs.YthideghgdmokkaaW.PrintWords Go.Proofs.YthideghgdmokkaaW.PrintLast Go.Proofs.YthideghgdmokkaaW.PrintMore
attribute [local go_sem] max2_int min2_int max_two min_two max_three min_three max_four min_four   -- for this text's walks alone
set_option linter.unusedVariables false
set_option linter.unusedSimpArgs false
def laws_toLogic.f (k : Nat) (l0_0 : List (List Int)) (l0_1 : List Int) : Option ((List (List Int)) × List Int) := (laws_toIntSS.f k l0_0).bind fun t211 => ((laws_toIntS.f k l0_1).bind fun t214 => (some (t211, t214)))
set_option maxHeartbeats 8000000 in
set_option maxRecDepth 100000 in
theorem laws_toLogic.calls (k : Nat) (A0_0 : Option Addr) (c0_0 : Nat) (l0_0 : List (List Int)) (A0_1 : Option Addr) (c0_1 : Nat) (l0_1 : List Int) (r1 : List (List Int)) (r2 : List Int) (w : World) (hr0_0 : Kd.C (Kd.slice 3 (Kd.int .i64)) w A0_0 l0_0.length l0_0) (hc0_0 : l0_0.length ≤ c0_0) (hr0_1 : Kd.C (Kd.int .i64) w A0_1 l0_1.length l0_1) (hc0_1 : l0_1.length ≤ c0_1) (h : laws_toLogic.f k l0_0 l0_1 = some (r1, r2)) :
  Calls Try.prog 16 #[.agg #[.slice A0_0 l0_0.length c0_0, .slice A0_1 l0_1.length c0_1]] w fun e w' => ∃ v0_ v1_ : Value, e = .returned (.agg #[v0_, v1_]) ∧ Kd.S (Kd.slice 3 (Kd.int .i64)) 23 w' w.heap.size (fun k_ => some k_ ≠ (v1_ : Value).ownBlock) v0_ r1 ∧ Kd.R (Kd.int .i64) 3 w' w.heap.size (fun _ => True) v1_ r2 ∧ Below w.heap.size w w' := by
 have hu25 := Try.underlying25
 have hu28 := Try.underlying28
 have HR0_0 := Aside0.mk hr0_0
 have HC0_0 := Aside0.mk hc0_0
 clear hr0_0 hc0_0
 have HR0_1 := Aside0.mk hr0_1
 have HC0_1 := Aside0.mk hc0_1
 clear hr0_1 hc0_1
 have HB := Aside0.mk (Below.refl w.heap.size w)
 have H : ((laws_toIntSS.f k l0_0).bind fun t211 => ((laws_toIntS.f k l0_1).bind fun t214 => (some (t211, t214)))) = some (r1, r2) := h
 clear h
 replace H := Option.bind_eq_some_iff.mp H
 obtain ⟨t211, A20, H⟩ := H
 replace H : ((laws_toIntS.f k l0_1).bind fun t214 => (some (t211, t214))) = some (r1, r2) := H
 have A2 := Aside0.mk A20
 clear A20
 replace H := Option.bind_eq_some_iff.mp H
 obtain ⟨t214, A30, H⟩ := H
 replace H : (some (t211, t214)) = some (r1, r2) := H
 have A3 := Aside0.mk A30
 clear A30
 simp only [Option.some.injEq, Prod.mk.injEq] at H
 obtain ⟨rfl, rfl⟩ := H
 go_enter Try.func16, Try.ntmps16
 go_wp2_with (first | ((with_reducible refine gate_dst (N := 1) rfl ?_); refine box_event ?hg (N := 1) ?hd (cs := #[.slice A0_0 l0_0.length c0_0, .slice A0_1 l0_1.length c0_1]) (t := 25) ?hr ?_; (case hd => rfl); (case hg => rfl); (case hr => first | (go_simp; done) | (go_simp; rfl)); intro gb208 hg w4 hbox hb; have n0_ := Aside0.mk (below_step (by repeat (first | (with_reducible first | exact HB.out | apply below_alloc | apply pw_below_drewN | apply below_drew1) | exact HB.out)) hb); have n1_ := Aside0.mk (hbox); have n2_ := Aside0.mk ((by rw [hg]; exact (below_size (by repeat (first | (with_reducible first | exact HB.out | apply below_alloc | apply pw_below_drewN | apply below_drew1) | exact HB.out))) : w.heap.size ≤ gb208)); have n3_ := Aside0.mk ((by rw [hg]; exact (below_size (by repeat (first | (with_reducible first | exact HB.out | apply below_alloc | apply pw_below_drewN | apply below_drew1) | exact HB.out))) : w.heap.size ≤ gb208)); clear HB; have HB := n0_; have BK208 := n1_; have GW208 := n2_; have GE208 := n3_; clear n0_ n1_ n2_ n3_; clear hb hbox hg) | ((with_reducible refine gate_dst (N := 2) rfl ?_); refine box_event ?hg (N := 2) ?hd (cs := #[.slice none 0 0, .slice none 0 0]) (t := 28) ?hr ?_; (case hd => rfl); (case hg => rfl); (case hr => first | (go_simp; done) | (go_simp; rfl)); intro gb209 hg w5 hbox hb; have n0_ := Aside0.mk (blk_below (g := gb208) (o := .cells #[.slice A0_0 l0_0.length c0_0, .slice A0_1 l0_1.length c0_1] 25 (0, 0)) (by (with_reducible repeat (first | refine blk_drewN ?_ _ | refine blk_drew ?_ | refine blk_alloc ?_ _)); exact BK208.out) hb); have n1_ := Aside0.mk (below_step (by repeat (first | (with_reducible first | exact HB.out | apply below_alloc | apply pw_below_drewN | apply below_drew1 | refine below_set ?_ GE208.out) | exact HB.out)) hb); have n2_ := Aside0.mk (hbox); have n3_ := Aside0.mk ((by rw [hg]; exact (below_size (by repeat (first | (with_reducible first | exact HB.out | apply below_alloc | apply pw_below_drewN | apply below_drew1 | refine below_set ?_ GE208.out) | exact HB.out))) : w.heap.size ≤ gb209)); have n4_ := Aside0.mk ((by rw [hg]; exact (below_size (by repeat (first | (with_reducible first | exact HB.out | apply below_alloc | apply pw_below_drewN | apply below_drew1 | refine below_set ?_ GE208.out) | exact HB.out))) : w.heap.size ≤ gb209)); have n5_ := Aside0.mk ((by rw [hg]; exact Nat.ne_of_lt (blk_lt (g := gb208) (o := .cells #[.slice A0_0 l0_0.length c0_0, .slice A0_1 l0_1.length c0_1] 25 (0, 0)) (by (with_reducible repeat (first | refine blk_drewN ?_ _ | refine blk_drew ?_ | refine blk_alloc ?_ _)); exact BK208.out)) : gb208 ≠ gb209)); have n6_ := Aside0.mk ((by rw [hg]; exact Nat.ne_of_gt (blk_lt (g := gb208) (o := .cells #[.slice A0_0 l0_0.length c0_0, .slice A0_1 l0_1.length c0_1] 25 (0, 0)) (by (with_reducible repeat (first | refine blk_drewN ?_ _ | refine blk_drew ?_ | refine blk_alloc ?_ _)); exact BK208.out)) : gb209 ≠ gb208)); clear BK208; clear HB; have BK208 := n0_; have HB := n1_; have BK209 := n2_; have GW209 := n3_; have GE209 := n4_; have NB208_209 := n5_; have NB209_208 := n6_; clear n0_ n1_ n2_ n3_ n4_ n5_ n6_; clear hb hbox hg) | ((with_reducible refine gate_dst (N := 3) rfl ?_); refine box_event ?hg (N := 3) ?hd (cs := #[.slice none 0 0, .slice none 0 0]) (t := 28) ?hr ?_; (case hd => rfl); (case hg => rfl); (case hr => first | (go_simp; done) | (go_simp; rfl)); intro gb210 hg w6 hbox hb; have n0_ := Aside0.mk (blk_below (g := gb208) (o := .cells #[.slice A0_0 l0_0.length c0_0, .slice A0_1 l0_1.length c0_1] 25 (0, 0)) (by (with_reducible repeat (first | refine blk_drewN ?_ _ | refine blk_drew ?_ | refine blk_alloc ?_ _)); exact BK208.out) hb); have n1_ := Aside0.mk (blk_below (g := gb209) (o := .cells #[.slice none 0 0, .slice none 0 0] 28 (0, 0)) (by (with_reducible repeat (first | refine blk_drewN ?_ _ | refine blk_drew ?_ | refine blk_alloc ?_ _)); exact BK209.out) hb); have n2_ := Aside0.mk (below_step (by repeat (first | (with_reducible first | exact HB.out | apply below_alloc | apply pw_below_drewN | apply below_drew1 | refine below_set ?_ GE208.out | refine below_set ?_ GE209.out) | exact HB.out)) hb); have n3_ := Aside0.mk (hbox); have n4_ := Aside0.mk ((by rw [hg]; exact (below_size (by repeat (first | (with_reducible first | exact HB.out | apply below_alloc | apply pw_below_drewN | apply below_drew1 | refine below_set ?_ GE208.out | refine below_set ?_ GE209.out) | exact HB.out))) : w.heap.size ≤ gb210)); have n5_ := Aside0.mk ((by rw [hg]; exact (below_size (by repeat (first | (with_reducible first | exact HB.out | apply below_alloc | apply pw_below_drewN | apply below_drew1 | refine below_set ?_ GE208.out | refine below_set ?_ GE209.out) | exact HB.out))) : w.heap.size ≤ gb210)); have n6_ := Aside0.mk ((by rw [hg]; exact Nat.ne_of_lt (blk_lt (g := gb208) (o := .cells #[.slice A0_0 l0_0.length c0_0, .slice A0_1 l0_1.length c0_1] 25 (0, 0)) (by (with_reducible repeat (first | refine blk_drewN ?_ _ | refine blk_drew ?_ | refine blk_alloc ?_ _)); exact BK208.out)) : gb208 ≠ gb210)); have n7_ := Aside0.mk ((by rw [hg]; exact Nat.ne_of_gt (blk_lt (g := gb208) (o := .cells #[.slice A0_0 l0_0.length c0_0, .slice A0_1 l0_1.length c0_1] 25 (0, 0)) (by (with_reducible repeat (first | refine blk_drewN ?_ _ | refine blk_drew ?_ | refine blk_alloc ?_ _)); exact BK208.out)) : gb210 ≠ gb208)); have n8_ := Aside0.mk ((by rw [hg]; exact Nat.ne_of_lt (blk_lt (g := gb209) (o := .cells #[.slice none 0 0, .slice none 0 0] 28 (0, 0)) (by (with_reducible repeat (first | refine blk_drewN ?_ _ | refine blk_drew ?_ | refine blk_alloc ?_ _)); exact BK209.out)) : gb209 ≠ gb210)); have n9_ := Aside0.mk ((by rw [hg]; exact Nat.ne_of_gt (blk_lt (g := gb209) (o := .cells #[.slice none 0 0, .slice none 0 0] 28 (0, 0)) (by (with_reducible repeat (first | refine blk_drewN ?_ _ | refine blk_drew ?_ | refine blk_alloc ?_ _)); exact BK209.out)) : gb210 ≠ gb209)); clear BK208; clear BK209; clear HB; have BK208 := n0_; have BK209 := n1_; have HB := n2_; have BK210 := n3_; have GW210 := n4_; have GE210 := n5_; have NB208_210 := n6_; have NB210_208 := n7_; have NB209_210 := n8_; have NB210_209 := n9_; clear n0_ n1_ n2_ n3_ n4_ n5_ n6_ n7_ n8_ n9_; clear hb hbox hg; have hnb7 := NB208_209.out; have hnc7 := NB209_208.out; have hnb8 := NB208_210.out; have hnc8 := NB210_208.out; have hcz9_0 : w6.cell? ⟨gb208, 0, none⟩ = some (.slice A0_0 l0_0.length c0_0) := (blk_cell BK208.out 0).trans rfl; have hcz9_1 : w6.cell? ⟨gb208, 1, none⟩ = some (.slice A0_1 l0_1.length c0_1) := (blk_cell BK208.out 1).trans rfl; have hfz9_0 := blk_frozen BK208.out 0; have hfz9_1 := blk_frozen BK208.out 1) | ((with_reducible refine gate_callee (f := 55) rfl ?_); refine goesL_ (some 6) rfl rfl Try.func55 (by kernel_rfl) rfl #[.slice A0_0 l0_0.length c0_0] rfl (by (try simp only [List.map_toArray, List.map_cons, List.map_nil]); first | done | rfl | (simp only [List.length_drop, List.length_take]; rfl)) ?_; (with_reducible refine (laws_toIntSS.calls k _ _ l0_0 t211 _ ?side1 ?side2 A2.out).mono ?_); (case side1 => repeat (first | exact (Kd.C_below HR0_0.out HB.out) | (with_reducible refine Kd.C_alloc ?_ _) | (with_reducible refine Kd.C_drewN ?_ _) | (with_reducible refine Kd.C_drew ?_))); (case side2 => exact HC0_0.out); rintro e w10 ⟨v212, rfl, ho0, hb⟩; refine ⟨_, rfl, ?_⟩; have n0_ := Aside0.mk (Kd.S_lower ho0 (below_size (by repeat (first | (with_reducible first | exact HB.out | apply below_alloc | apply pw_below_drewN | apply below_drew1 | refine below_set ?_ GE208.out | refine below_set ?_ GE209.out | refine below_set ?_ GE210.out) | exact HB.out)))); have n1_ := Aside0.mk (blk_below (g := gb208) (o := .cells #[.slice A0_0 l0_0.length c0_0, .slice A0_1 l0_1.length c0_1] 25 (0, 0)) (by (with_reducible repeat (first | refine blk_drewN ?_ _ | refine blk_drew ?_ | refine blk_alloc ?_ _)); exact BK208.out) hb); have n2_ := Aside0.mk (blk_below (g := gb209) (o := .cells #[.slice none 0 0, .slice none 0 0] 28 (0, 0)) (by (with_reducible repeat (first | refine blk_drewN ?_ _ | refine blk_drew ?_ | refine blk_alloc ?_ _)); exact BK209.out) hb); have n3_ := Aside0.mk (blk_below (g := gb210) (o := .cells #[.slice none 0 0, .slice none 0 0] 28 (0, 0)) (by (with_reducible repeat (first | refine blk_drewN ?_ _ | refine blk_drew ?_ | refine blk_alloc ?_ _)); exact BK210.out) hb); have n4_ := Aside0.mk (below_step (by repeat (first | (with_reducible first | exact HB.out | apply below_alloc | apply pw_below_drewN | apply below_drew1 | refine below_set ?_ GE208.out | refine below_set ?_ GE209.out | refine below_set ?_ GE210.out) | exact HB.out)) hb); clear BK208; clear BK209; clear BK210; clear HB; have HO213 := n0_; have BK208 := n1_; have BK209 := n2_; have BK210 := n3_; have HB := n4_; clear n0_ n1_ n2_ n3_ n4_; (try clear hb); (try clear hb2); (try clear hk); (try clear hi); (try clear ho0); obtain ⟨Ao11, co11, eo11⟩ := Kd.S_slice HO213.out; subst eo11; have hnb12 := NB210_209.out; have hnc12 := NB209_210.out; have hcz13_0 : w10.cell? ⟨gb210, 0, none⟩ = some (.slice none 0 0) := (blk_cell BK210.out 0).trans rfl; have hcz13_1 : w10.cell? ⟨gb210, 1, none⟩ = some (.slice none 0 0) := (blk_cell BK210.out 1).trans rfl; have hfz13_0 := blk_frozen BK210.out 0; have hfz13_1 := blk_frozen BK210.out 1; have hcz14_0 : w10.cell? ⟨gb208, 0, none⟩ = some (.slice A0_0 l0_0.length c0_0) := (blk_cell BK208.out 0).trans rfl; have hcz14_1 : w10.cell? ⟨gb208, 1, none⟩ = some (.slice A0_1 l0_1.length c0_1) := (blk_cell BK208.out 1).trans rfl; have hfz14_0 := blk_frozen BK208.out 0; have hfz14_1 := blk_frozen BK208.out 1) | ((with_reducible refine gate_callee (f := 56) rfl ?_); refine goesL_ (some 10) rfl rfl Try.func56 (by kernel_rfl) rfl #[.slice A0_1 l0_1.length c0_1] rfl (by (try simp only [List.map_toArray, List.map_cons, List.map_nil]); first | done | rfl | (simp only [List.length_drop, List.length_take]; rfl)) ?_; (with_reducible refine (laws_toIntS.calls k _ _ l0_1 t214 _ ?side1 ?side2 A3.out).mono ?_); (case side1 => exact Kd.C_below HR0_1.out (by repeat (first | (with_reducible first | exact HB.out | apply below_alloc | apply pw_below_drewN | apply below_drew1 | refine below_set ?_ GE208.out | refine below_set ?_ GE209.out | refine below_set ?_ GE210.out) | exact HB.out))); (case side2 => exact HC0_1.out); rintro e w15 ⟨v215, rfl, ho0, hb⟩; refine ⟨_, rfl, ?_⟩; have n0_ := Aside0.mk (Kd.S_elder' (by (with_reducible repeat (first | apply Kd.S_alloc | apply Kd.S_drewN | apply Kd.S_drew)); exact (Kd.S_mono (Kd.S_far (p := ⟨gb210, 0, none⟩) (Kd.S_types HO213.out BK210.out (by decide)) (fun _ hk => hk.2) (.slice Ao11 t211.length co11)) (fun _ h_ => h_.1))) (Kd.R_base ho0) hb); have n1_ := Aside0.mk (Kd.R_lower ho0 (below_size (by repeat (first | (with_reducible first | exact HB.out | apply below_alloc | apply pw_below_drewN | apply below_drew1 | refine below_set ?_ GE208.out | refine below_set ?_ GE209.out | refine below_set ?_ GE210.out) | exact HB.out)))); have n2_ := Aside0.mk (blk_below (g := gb208) (o := .cells #[.slice A0_0 l0_0.length c0_0, .slice A0_1 l0_1.length c0_1] 25 (0, 0)) (by (with_reducible repeat (first | refine blk_drewN ?_ _ | refine blk_drew ?_ | refine blk_alloc ?_ _)); refine blk_far ?_ NB208_210.out _; (with_reducible repeat (first | refine blk_drewN ?_ _ | refine blk_drew ?_ | refine blk_alloc ?_ _)); exact BK208.out) hb); have n3_ := Aside0.mk (blk_below (g := gb209) (o := .cells #[.slice none 0 0, .slice none 0 0] 28 (0, 0)) (by (with_reducible repeat (first | refine blk_drewN ?_ _ | refine blk_drew ?_ | refine blk_alloc ?_ _)); refine blk_far ?_ NB209_210.out _; (with_reducible repeat (first | refine blk_drewN ?_ _ | refine blk_drew ?_ | refine blk_alloc ?_ _)); exact BK209.out) hb); have n4_ := Aside0.mk (blk_below (g := gb210) (o := .cells #[.slice Ao11 t211.length co11, .slice none 0 0] 28 (0, 0)) (by (with_reducible repeat (first | refine blk_drewN ?_ _ | refine blk_drew ?_ | refine blk_alloc ?_ _)); refine blk_put (cs := #[.slice none 0 0, .slice none 0 0]) ?_ 0 _ rfl; (with_reducible repeat (first | refine blk_drewN ?_ _ | refine blk_drew ?_ | refine blk_alloc ?_ _)); exact BK210.out) hb); have n5_ := Aside0.mk (below_step (by repeat (first | (with_reducible first | exact HB.out | apply below_alloc | apply pw_below_drewN | apply below_drew1 | refine below_set ?_ GE208.out | refine below_set ?_ GE209.out | refine below_set ?_ GE210.out) | exact HB.out)) hb); clear HO213; clear BK208; clear BK209; clear BK210; clear HB; have HO213 := n0_; have HO216 := n1_; have BK208 := n2_; have BK209 := n3_; have BK210 := n4_; have HB := n5_; clear n0_ n1_ n2_ n3_ n4_ n5_; (try clear hb); (try clear hb2); (try clear hk); (try clear hi); (try clear ho0); obtain ⟨Ao16, co16, eo16⟩ := Kd.R_slice HO216.out; subst eo16; have hcz17_0 : w15.cell? ⟨gb210, 0, none⟩ = some (.slice Ao11 t211.length co11) := (blk_cell BK210.out 0).trans rfl; have hcz17_1 : w15.cell? ⟨gb210, 1, none⟩ = some (.slice none 0 0) := (blk_cell BK210.out 1).trans rfl; have hfz17_0 := blk_frozen BK210.out 0; have hfz17_1 := blk_frozen BK210.out 1; have hcz18_0 : w15.cell? ⟨gb209, 0, none⟩ = some (.slice none 0 0) := (blk_cell BK209.out 0).trans rfl; have hcz18_1 : w15.cell? ⟨gb209, 1, none⟩ = some (.slice none 0 0) := (blk_cell BK209.out 1).trans rfl; have hfz18_0 := blk_frozen BK209.out 0; have hfz18_1 := blk_frozen BK209.out 1))
 refine bodyPost_ret (results_cell_row rfl _ _ gb209 28 #[.slice Ao11 t211.length co11, .slice Ao16 t214.length co16] (0, 0) _ rfl (by (with_reducible repeat (first | refine blk_drewN ?_ _ | refine blk_drew ?_ | refine blk_alloc ?_ _)); refine blk_put (cs := #[.slice Ao11 t211.length co11, .slice none 0 0]) ?_ 1 _ rfl; (with_reducible repeat (first | refine blk_drewN ?_ _ | refine blk_drew ?_ | refine blk_alloc ?_ _)); refine blk_put (cs := #[.slice none 0 0, .slice none 0 0]) ?_ 0 _ rfl; (with_reducible repeat (first | refine blk_drewN ?_ _ | refine blk_drew ?_ | refine blk_alloc ?_ _)); refine blk_far ?_ NB209_210.out _; (with_reducible repeat (first | refine blk_drewN ?_ _ | refine blk_drew ?_ | refine blk_alloc ?_ _)); exact BK209.out) Try.underlying28 rfl (by kernel_rfl)) rfl ?_
 exact ⟨_, _, by first | rfl | (simp [errW_none, errW_some] <;> rfl) | (simp [*, errW_none, errW_some] <;> rfl), by (with_reducible repeat (first | apply Kd.S_alloc | apply Kd.S_drewN | apply Kd.S_drew)); exact Kd.S_mono (Kd.S_far (p := ⟨gb209, 1, none⟩) (Kd.S_far (p := ⟨gb209, 0, none⟩) (Kd.S_far (p := ⟨gb210, 1, none⟩) (Kd.S_types (Kd.S_types HO213.out BK210.out (by decide)) BK209.out (by decide)) (fun _ hk => hk.1.2) (.slice Ao16 t214.length co16)) (fun _ hk => hk.2) (.slice Ao11 t211.length co11)) (fun _ hk => hk.2) (.slice Ao16 t214.length co16)) (fun _ hk => hk.1.1.2), by (with_reducible repeat (first | apply Kd.R_alloc | apply Kd.R_drewN | apply Kd.R_drew)); exact Kd.R_mono (Kd.R_far (p := ⟨gb209, 1, none⟩) (Kd.R_far (p := ⟨gb209, 0, none⟩) (Kd.R_far (p := ⟨gb210, 1, none⟩) (Kd.R_types (Kd.R_types HO216.out BK210.out (by decide)) BK209.out (by decide)) (fun _ hk => hk.1.2) (.slice Ao16 t214.length co16)) (fun _ hk => hk.2) (.slice Ao11 t211.length co11)) (fun _ hk => hk.2) (.slice Ao16 t214.length co16)) (fun _ hk => trivial), by repeat (first | (with_reducible first | exact HB.out | apply below_alloc | apply pw_below_drewN | apply below_drew1 | refine below_set ?_ GE208.out | refine below_set ?_ GE209.out | refine below_set ?_ GE210.out) | exact HB.out)⟩
end Go.Proofs.Ythideghgdmokkaa.Print
end
section
namespace Go.Proofs.Ythideghgdmokkaa.Print
open Go.RowKit Go.Proofs.YthideghgdmokkaaW.PrintWords Go.Proofs.YthideghgdmokkaaW.PrintLast Go.Proofs.YthideghgdmokkaaW.PrintMore
attribute [local go_sem] max2_int min2_int max_two min_two max_three min_three max_four min_four   -- for this text's walks alone
set_option linter.unusedVariables false
set_option linter.unusedSimpArgs false
def laws_szIntS.f (l0 : List Int) (a1 : Int) : Option (Int) := if (wrap64 (a1 - (l0.length : Int))) < 0 then (some (-1)) else (some (wrap64 (a1 - (l0.length : Int))))
set_option maxHeartbeats 8000000 in
set_option maxRecDepth 100000 in
theorem laws_szIntS.calls (A0 : Option Addr) (c0 : Nat) (l0 : List Int) (a1 : Int) (r : Int) (w : World) (hr0 : Kd.C (Kd.int .i64) w A0 l0.length l0) (hc0 : l0.length ≤ c0) (h : laws_szIntS.f l0 a1 = some r) :
  Calls Try.prog 50 #[.slice A0 l0.length c0, .int .i64 a1] w fun e w' => e = .returned (.int .i64 r) ∧ Drawn0 w w' := by
 have HR0 := Aside0.mk hr0
 have HC0 := Aside0.mk hc0
 clear hr0 hc0
 have H : (if (wrap64 (a1 - (l0.length : Int))) < 0 then (some (-1)) else (some (wrap64 (a1 - (l0.length : Int))))) = some r := h
 clear h
 by_cases c3 : (wrap64 (a1 - (l0.length : Int))) < 0
 ·rw [if_pos c3] at H
  have c3b0 : decide ((wrap64 (a1 - (l0.length : Int))) < 0) = true := decide_eq_true c3
  clear c3
  obtain rfl := Option.some.inj H
  go_enter Try.func50, Try.ntmps50
  go_wp2
  go_ret
  exact ⟨by first | rfl | (simp; done) | (simp [*]; done), by repeat (first | exact Drawn0.refl _ | apply Drawn0.step)⟩
 ·rw [if_neg c3] at H
  have c3b0 : decide ((wrap64 (a1 - (l0.length : Int))) < 0) = false := decide_eq_false c3
  clear c3
  obtain rfl := Option.some.inj H
  go_enter Try.func50, Try.ntmps50
  go_wp2
  go_ret
  exact ⟨by first | rfl | (simp; done) | (simp [*]; done), by repeat (first | exact Drawn0.refl _ | apply Drawn0.step)⟩
end Go.Proofs.Ythideghgdmokkaa.Print
end
section
namespace Go.Proofs.Ythideghgdmokkaa.Print
open Go.RowKit Go.Proofs.YthideghgdmokkaaW.PrintWords Go.Proofs.YthideghgdmokkaaW.PrintLast Go.Proofs.YthideghgdmokkaaW.PrintMore
attribute [local go_sem] max2_int min2_int max_two min_two max_three min_three max_four min_four   -- for this text's walks alone
set_option linter.unusedVariables false
set_option linter.unusedSimpArgs false
def laws_szIntSS.l0 : Nat → List (List Int) → Int → Int → Option (Int)
 | 0, _, _, _ => none
 | k + 1, x0, x1, x5 => if x5 < (x0.length : Int) then (if 0 ≤ x5 then ((laws_szIntS.f (rd_L1 x0 x5) x1).bind fun t102 => (if t102 < 0 then (some (-1)) else (laws_szIntSS.l0 k x0 t102 (wrap64 (x5 + 1))))) else (none)) else (some x1)
def laws_szIntSS.f (k : Nat) (l0 : List (List Int)) (a1 : Int) : Option (Int) := if (wrap64 (a1 - (l0.length : Int))) < 0 then (some (-1)) else (laws_szIntSS.l0 k l0 (wrap64 (a1 - (l0.length : Int))) 0)
set_option maxHeartbeats 8000000 in
set_option maxRecDepth 100000 in
theorem laws_szIntSS.calls (k : Nat) (A0 : Option Addr) (c0 : Nat) (l0 : List (List Int)) (a1 : Int) (r : Int) (w : World) (hr0 : Kd.C (Kd.slice 3 (Kd.int .i64)) w A0 l0.length l0) (hc0 : l0.length ≤ c0) (h : laws_szIntSS.f k l0 a1 = some r) :
  Calls Try.prog 49 #[.slice A0 l0.length c0, .int .i64 a1] w fun e w' => e = .returned (.int .i64 r) ∧ Drawn0 w w' := by
 have HR0 := Aside0.mk hr0
 have HC0 := Aside0.mk hc0
 clear hr0 hc0
 have H : (if (wrap64 (a1 - (l0.length : Int))) < 0 then (some (-1)) else (laws_szIntSS.l0 k l0 (wrap64 (a1 - (l0.length : Int))) 0)) = some r := h
 clear h
 by_cases c3 : (wrap64 (a1 - (l0.length : Int))) < 0
 ·rw [if_pos c3] at H
  have c3b0 : decide ((wrap64 (a1 - (l0.length : Int))) < 0) = true := decide_eq_true c3
  clear c3
  obtain rfl := Option.some.inj H
  go_enter Try.func49, Try.ntmps49
  go_wp2
  go_ret
  exact ⟨by first | rfl | (simp; done) | (simp [*]; done), by repeat (first | exact Drawn0.refl _ | apply Drawn0.step)⟩
 ·rw [if_neg c3] at H
  have c3b0 : decide ((wrap64 (a1 - (l0.length : Int))) < 0) = false := decide_eq_false c3
  clear c3
  have H' := Aside0.mk H
  clear H
  go_enter Try.func49, Try.ntmps49
  go_wp2
  go_loopg [1, 5] k (fun kq v1 v5 w' => ∃ (x1_1 : Int) (x5_1 : Int), v1 = .int .i64 x1_1 ∧ v5 = .int .i64 x5_1 ∧ Aside0 (laws_szIntSS.l0 kq l0 x1_1 x5_1 = some r) ∧ Aside0 (kq ≤ k) ∧ Drawn0 w w')
  case atStart => exact ⟨(wrap64 (a1 - (l0.length : Int))), (0), (by first | rfl | (simp; done) | (simp [*]; done)), (by first | rfl | (simp; done) | (simp [*]; done)), H', ⟨Nat.le_refl _⟩, by repeat (first | exact Drawn0.refl _ | apply Drawn0.step)⟩
  case round =>
   clear H'
   try clear p2
   try clear c3
   try clear c3b0
   obtain ⟨x1_1, x5_1, rfl, rfl, HA, HK1, ⟨m1, rfl⟩⟩ := hrel
   cases gk with
   | zero => exact absurd HA.out (by simp [laws_szIntSS.l0])
   | succ k1 =>
    have H := HA.out
    clear HA
    simp only [laws_szIntSS.l0] at H
    by_cases c4 : x5_1 < (l0.length : Int)
    ·rw [if_pos c4] at H
     have c4b0 : decide (x5_1 < (l0.length : Int)) = true := decide_eq_true c4
     clear c4
     by_cases c5 : 0 ≤ x5_1
     ·rw [if_pos c5] at H
      have c5b0 : decide (0 ≤ x5_1) = true := decide_eq_true c5
      clear c5
      replace H := Option.bind_eq_some_iff.mp H
      obtain ⟨t102, A60, H⟩ := H
      replace H : (if t102 < 0 then (some (-1)) else (laws_szIntSS.l0 k1 l0 t102 (wrap64 (x5_1 + 1)))) = some r := H
      have A6 := Aside0.mk A60
      clear A60
      by_cases c7 : t102 < 0
      ·rw [if_pos c7] at H
       have c7b0 : decide (t102 < 0) = true := decide_eq_true c7
       clear c7
       obtain rfl := Option.some.inj H
       have p101 : 0 ≤ (x5_1 : Int) := of_decide_eq_true (by first | (with_reducible assumption) | assumption)
       have q101 : x5_1 < (l0.length : Int) := of_decide_eq_true (by first | (with_reducible assumption) | assumption)
       obtain ⟨ad101, A101_0, c101_0, e101, hx101_0, hl101_0, hi101_0⟩ := at_L1 HR0.out x5_1 p101 q101
       cases e101
       have HR101_0 := Aside0.mk hi101_0
       have HC101_0 := Aside0.mk hl101_0
       clear hi101_0 hl101_0
       replace p101 := eq_true p101
       replace q101 := eq_true q101
       go_wp2_with (first | ((with_reducible refine gate_callee (f := 50) rfl ?_); refine goesL_ (some 23) rfl rfl Try.func50 (by kernel_rfl) rfl #[.slice A101_0 (rd_L1 l0 x5_1).length c101_0, .int .i64 x1_1] rfl (by (try simp only [List.map_toArray, List.map_cons, List.map_nil]); first | done | rfl | (simp only [List.length_drop, List.length_take]; rfl)) ?_; (with_reducible refine (laws_szIntS.calls _ _ (rd_L1 l0 x5_1) x1_1 t102 _ ?side1 ?side2 A6.out).mono ?_); (case side1 => repeat (first | exact HR101_0.out | (with_reducible refine Kd.C_alloc ?_ _) | (with_reducible refine Kd.C_drewN ?_ _) | (with_reducible refine Kd.C_drew ?_))); (case side2 => exact HC101_0.out); rintro e w' ⟨rfl, ⟨nd, rfl⟩⟩; refine ⟨_, rfl, ?_⟩))
       go_ret
       exact ⟨by first | rfl | (simp; done) | (simp [*]; done), by repeat (first | exact Drawn0.refl _ | apply Drawn0.step)⟩
      ·rw [if_neg c7] at H
       have c7b0 : decide (t102 < 0) = false := decide_eq_false c7
       clear c7
       have H' := Aside0.mk H
       clear H
       have p101 : 0 ≤ (x5_1 : Int) := of_decide_eq_true (by first | (with_reducible assumption) | assumption)
       have q101 : x5_1 < (l0.length : Int) := of_decide_eq_true (by first | (with_reducible assumption) | assumption)
       obtain ⟨ad101, A101_0, c101_0, e101, hx101_0, hl101_0, hi101_0⟩ := at_L1 HR0.out x5_1 p101 q101
       cases e101
       have HR101_0 := Aside0.mk hi101_0
       have HC101_0 := Aside0.mk hl101_0
       clear hi101_0 hl101_0
       replace p101 := eq_true p101
       replace q101 := eq_true q101
       go_wp2_with (first | ((with_reducible refine gate_callee (f := 50) rfl ?_); refine goesL_ (some 23) rfl rfl Try.func50 (by kernel_rfl) rfl #[.slice A101_0 (rd_L1 l0 x5_1).length c101_0, .int .i64 x1_1] rfl (by (try simp only [List.map_toArray, List.map_cons, List.map_nil]); first | done | rfl | (simp only [List.length_drop, List.length_take]; rfl)) ?_; (with_reducible refine (laws_szIntS.calls _ _ (rd_L1 l0 x5_1) x1_1 t102 _ ?side1 ?side2 A6.out).mono ?_); (case side1 => repeat (first | exact HR101_0.out | (with_reducible refine Kd.C_alloc ?_ _) | (with_reducible refine Kd.C_drewN ?_ _) | (with_reducible refine Kd.C_drew ?_))); (case side2 => exact HC101_0.out); rintro e w' ⟨rfl, ⟨nd, rfl⟩⟩; refine ⟨_, rfl, ?_⟩))
       go_roundg k1
       case measure => have := HK1.out; omega
       case rel => exact ⟨(t102), (wrap64 (x5_1 + 1)), (by first | rfl | (simp; done) | (simp [*]; done)), (by first | rfl | (simp; done) | (simp [*]; done)), H', ⟨by have := HK1.out; omega⟩, by repeat (first | exact Drawn0.refl _ | apply Drawn0.step)⟩
     ·rw [if_neg c5] at H
      exact absurd H (by simp)
    ·rw [if_neg c4] at H
     have c4b0 : decide (x5_1 < (l0.length : Int)) = false := decide_eq_false c4
     clear c4
     obtain rfl := Option.some.inj H
     go_wp2
     go_ret
     exact ⟨by first | rfl | (simp; done) | (simp [*]; done), by repeat (first | exact Drawn0.refl _ | apply Drawn0.step)⟩
end Go.Proofs.Ythideghgdmokkaa.Print
end
section
namespace Go.Proofs.Ythideghgdmokkaa.Print
open Go.RowKit Go.Proofs.YthideghgdmokkaaW.PrintWords Go.Proofs.YthideghgdmokkaaW.PrintLast Go.Proofs.YthideghgdmokkaaW.PrintMore
attribute [local go_sem] max2_int min2_int max_two min_two max_three min_three max_four min_four   -- for this text's walks alone
set_option linter.unusedVariables false
set_option linter.unusedSimpArgs false
def laws_szLogic.f (k : Nat) (l0_0 : List (List Int)) (l0_1 : List Int) (a1 : Int) : Option (Int) := (laws_szIntSS.f k l0_0 a1).bind fun t104 => (if t104 < 0 then (some (-1)) else ((laws_szIntS.f l0_1 t104).bind fun t105 => (if t105 < 0 then (some (-1)) else (some t105))))
set_option maxHeartbeats 8000000 in
set_option maxRecDepth 100000 in
theorem laws_szLogic.calls (k : Nat) (A0_0 : Option Addr) (c0_0 : Nat) (l0_0 : List (List Int)) (A0_1 : Option Addr) (c0_1 : Nat) (l0_1 : List Int) (a1 : Int) (r : Int) (w : World) (hr0_0 : Kd.C (Kd.slice 3 (Kd.int .i64)) w A0_0 l0_0.length l0_0) (hc0_0 : l0_0.length ≤ c0_0) (hr0_1 : Kd.C (Kd.int .i64) w A0_1 l0_1.length l0_1) (hc0_1 : l0_1.length ≤ c0_1) (h : laws_szLogic.f k l0_0 l0_1 a1 = some r) :
  Calls Try.prog 14 #[.agg #[.slice A0_0 l0_0.length c0_0, .slice A0_1 l0_1.length c0_1], .int .i64 a1] w fun e w' => e = .returned (.int .i64 r) ∧ Below w.heap.size w w' := by
 have hu25 := Try.underlying25
 have HR0_0 := Aside0.mk hr0_0
 have HC0_0 := Aside0.mk hc0_0
 clear hr0_0 hc0_0
 have HR0_1 := Aside0.mk hr0_1
 have HC0_1 := Aside0.mk hc0_1
 clear hr0_1 hc0_1
 have HB := Aside0.mk (Below.refl w.heap.size w)
 have H : ((laws_szIntSS.f k l0_0 a1).bind fun t104 => (if t104 < 0 then (some (-1)) else ((laws_szIntS.f l0_1 t104).bind fun t105 => (if t105 < 0 then (some (-1)) else (some t105))))) = some r := h
 clear h
 replace H := Option.bind_eq_some_iff.mp H
 obtain ⟨t104, A30, H⟩ := H
 replace H : (if t104 < 0 then (some (-1)) else ((laws_szIntS.f l0_1 t104).bind fun t105 => (if t105 < 0 then (some (-1)) else (some t105)))) = some r := H
 have A3 := Aside0.mk A30
 clear A30
 by_cases c4 : t104 < 0
 ·rw [if_pos c4] at H
  have c4b0 : decide (t104 < 0) = true := decide_eq_true c4
  clear c4
  obtain rfl := Option.some.inj H
  go_enter Try.func14, Try.ntmps14
  go_wp2_with (first | ((with_reducible refine gate_dst (N := 2) rfl ?_); refine box_event ?hg (N := 2) ?hd (cs := #[.slice A0_0 l0_0.length c0_0, .slice A0_1 l0_1.length c0_1]) (t := 25) ?hr ?_; (case hd => rfl); (case hg => rfl); (case hr => first | (go_simp; done) | (go_simp; rfl)); intro gb103 hg w5 hbox hb; have n0_ := Aside0.mk (below_step (by repeat (first | (with_reducible first | exact HB.out | apply below_alloc | apply pw_below_drewN | apply below_drew1) | exact HB.out)) hb); have n1_ := Aside0.mk (hbox); have n2_ := Aside0.mk ((by rw [hg]; exact (below_size (by repeat (first | (with_reducible first | exact HB.out | apply below_alloc | apply pw_below_drewN | apply below_drew1) | exact HB.out))) : w.heap.size ≤ gb103)); have n3_ := Aside0.mk ((by rw [hg]; exact (below_size (by repeat (first | (with_reducible first | exact HB.out | apply below_alloc | apply pw_below_drewN | apply below_drew1) | exact HB.out))) : w.heap.size ≤ gb103)); clear HB; have HB := n0_; have BK103 := n1_; have GW103 := n2_; have GE103 := n3_; clear n0_ n1_ n2_ n3_; clear hb hbox hg; have hcz6_0 : w5.cell? ⟨gb103, 0, none⟩ = some (.slice A0_0 l0_0.length c0_0) := (blk_cell BK103.out 0).trans rfl; have hcz6_1 : w5.cell? ⟨gb103, 1, none⟩ = some (.slice A0_1 l0_1.length c0_1) := (blk_cell BK103.out 1).trans rfl; have hfz6_0 := blk_frozen BK103.out 0; have hfz6_1 := blk_frozen BK103.out 1) | ((with_reducible refine gate_callee (f := 49) rfl ?_); refine goesL_ (some 8) rfl rfl Try.func49 (by kernel_rfl) rfl #[.slice A0_0 l0_0.length c0_0, .int .i64 a1] rfl (by (try simp only [List.map_toArray, List.map_cons, List.map_nil]); first | done | rfl | (simp only [List.length_drop, List.length_take]; rfl)) ?_; (with_reducible refine (laws_szIntSS.calls k _ _ l0_0 a1 t104 _ ?side1 ?side2 A3.out).mono ?_); (case side1 => repeat (first | exact (Kd.C_below HR0_0.out HB.out) | (with_reducible refine Kd.C_alloc ?_ _) | (with_reducible refine Kd.C_drewN ?_ _) | (with_reducible refine Kd.C_drew ?_))); (case side2 => exact HC0_0.out); rintro e w' ⟨rfl, ⟨nd, rfl⟩⟩; refine ⟨_, rfl, ?_⟩))
  go_ret
  exact ⟨by first | rfl | (simp [errW_none, errW_some] <;> rfl) | (simp [*, errW_none, errW_some] <;> rfl), by repeat (first | (with_reducible first | exact HB.out | apply below_alloc | apply pw_below_drewN | apply below_drew1 | refine below_set ?_ GE103.out) | exact HB.out)⟩
 ·rw [if_neg c4] at H
  have c4b0 : decide (t104 < 0) = false := decide_eq_false c4
  clear c4
  replace H := Option.bind_eq_some_iff.mp H
  obtain ⟨t105, A70, H⟩ := H
  replace H : (if t105 < 0 then (some (-1)) else (some t105)) = some r := H
  have A7 := Aside0.mk A70
  clear A70
  by_cases c8 : t105 < 0
  ·rw [if_pos c8] at H
   have c8b0 : decide (t105 < 0) = true := decide_eq_true c8
   clear c8
   obtain rfl := Option.some.inj H
   go_enter Try.func14, Try.ntmps14
   go_wp2_with (first | ((with_reducible refine gate_dst (N := 2) rfl ?_); refine box_event ?hg (N := 2) ?hd (cs := #[.slice A0_0 l0_0.length c0_0, .slice A0_1 l0_1.length c0_1]) (t := 25) ?hr ?_; (case hd => rfl); (case hg => rfl); (case hr => first | (go_simp; done) | (go_simp; rfl)); intro gb103 hg w9 hbox hb; have n0_ := Aside0.mk (below_step (by repeat (first | (with_reducible first | exact HB.out | apply below_alloc | apply pw_below_drewN | apply below_drew1) | exact HB.out)) hb); have n1_ := Aside0.mk (hbox); have n2_ := Aside0.mk ((by rw [hg]; exact (below_size (by repeat (first | (with_reducible first | exact HB.out | apply below_alloc | apply pw_below_drewN | apply below_drew1) | exact HB.out))) : w.heap.size ≤ gb103)); have n3_ := Aside0.mk ((by rw [hg]; exact (below_size (by repeat (first | (with_reducible first | exact HB.out | apply below_alloc | apply pw_below_drewN | apply below_drew1) | exact HB.out))) : w.heap.size ≤ gb103)); clear HB; have HB := n0_; have BK103 := n1_; have GW103 := n2_; have GE103 := n3_; clear n0_ n1_ n2_ n3_; clear hb hbox hg; have hcz10_0 : w9.cell? ⟨gb103, 0, none⟩ = some (.slice A0_0 l0_0.length c0_0) := (blk_cell BK103.out 0).trans rfl; have hcz10_1 : w9.cell? ⟨gb103, 1, none⟩ = some (.slice A0_1 l0_1.length c0_1) := (blk_cell BK103.out 1).trans rfl; have hfz10_0 := blk_frozen BK103.out 0; have hfz10_1 := blk_frozen BK103.out 1) | ((with_reducible refine gate_callee (f := 49) rfl ?_); refine goesL_ (some 8) rfl rfl Try.func49 (by kernel_rfl) rfl #[.slice A0_0 l0_0.length c0_0, .int .i64 a1] rfl (by (try simp only [List.map_toArray, List.map_cons, List.map_nil]); first | done | rfl | (simp only [List.length_drop, List.length_take]; rfl)) ?_; (with_reducible refine (laws_szIntSS.calls k _ _ l0_0 a1 t104 _ ?side1 ?side2 A3.out).mono ?_); (case side1 => repeat (first | exact (Kd.C_below HR0_0.out HB.out) | (with_reducible refine Kd.C_alloc ?_ _) | (with_reducible refine Kd.C_drewN ?_ _) | (with_reducible refine Kd.C_drew ?_))); (case side2 => exact HC0_0.out); rintro e w' ⟨rfl, ⟨nd, rfl⟩⟩; refine ⟨_, rfl, ?_⟩) | ((with_reducible refine gate_callee (f := 50) rfl ?_); refine goesL_ (some 14) rfl rfl Try.func50 (by kernel_rfl) rfl #[.slice A0_1 l0_1.length c0_1, .int .i64 t104] rfl (by (try simp only [List.map_toArray, List.map_cons, List.map_nil]); first | done | rfl | (simp only [List.length_drop, List.length_take]; rfl)) ?_; (with_reducible refine (laws_szIntS.calls _ _ l0_1 t104 t105 _ ?side1 ?side2 A7.out).mono ?_); (case side1 => repeat (first | exact (Kd.C_below HR0_1.out (by repeat (first | (with_reducible first | exact HB.out | apply below_alloc | apply pw_below_drewN | apply below_drew1 | refine below_set ?_ GE103.out) | exact HB.out))) | (with_reducible refine Kd.C_alloc ?_ _) | (with_reducible refine Kd.C_drewN ?_ _) | (with_reducible refine Kd.C_drew ?_))); (case side2 => exact HC0_1.out); rintro e w' ⟨rfl, ⟨nd, rfl⟩⟩; refine ⟨_, rfl, ?_⟩))
   go_ret
   exact ⟨by first | rfl | (simp [errW_none, errW_some] <;> rfl) | (simp [*, errW_none, errW_some] <;> rfl), by repeat (first | (with_reducible first | exact HB.out | apply below_alloc | apply pw_below_drewN | apply below_drew1 | refine below_set ?_ GE103.out) | exact HB.out)⟩
  ·rw [if_neg c8] at H
   have c8b0 : decide (t105 < 0) = false := decide_eq_false c8
   clear c8
   obtain rfl := Option.some.inj H
   go_enter Try.func14, Try.ntmps14
   go_wp2_with (first | ((with_reducible refine gate_dst (N := 2) rfl ?_); refine box_event ?hg (N := 2) ?hd (cs := #[.slice A0_0 l0_0.length c0_0, .slice A0_1 l0_1.length c0_1]) (t := 25) ?hr ?_; (case hd => rfl); (case hg => rfl); (case hr => first | (go_simp; done) | (go_simp; rfl)); intro gb103 hg w11 hbox hb; have n0_ := Aside0.mk (below_step (by repeat (first | (with_reducible first | exact HB.out | apply below_alloc | apply pw_below_drewN | apply below_drew1) | exact HB.out)) hb); have n1_ := Aside0.mk (hbox); have n2_ := Aside0.mk ((by rw [hg]; exact (below_size (by repeat (first | (with_reducible first | exact HB.out | apply below_alloc | apply pw_below_drewN | apply below_drew1) | exact HB.out))) : w.heap.size ≤ gb103)); have n3_ := Aside0.mk ((by rw [hg]; exact (below_size (by repeat (first | (with_reducible first | exact HB.out | apply below_alloc | apply pw_below_drewN | apply below_drew1) | exact HB.out))) : w.heap.size ≤ gb103)); clear HB; have HB := n0_; have BK103 := n1_; have GW103 := n2_; have GE103 := n3_; clear n0_ n1_ n2_ n3_; clear hb hbox hg; have hcz12_0 : w11.cell? ⟨gb103, 0, none⟩ = some (.slice A0_0 l0_0.length c0_0) := (blk_cell BK103.out 0).trans rfl; have hcz12_1 : w11.cell? ⟨gb103, 1, none⟩ = some (.slice A0_1 l0_1.length c0_1) := (blk_cell BK103.out 1).trans rfl; have hfz12_0 := blk_frozen BK103.out 0; have hfz12_1 := blk_frozen BK103.out 1) | ((with_reducible refine gate_callee (f := 49) rfl ?_); refine goesL_ (some 8) rfl rfl Try.func49 (by kernel_rfl) rfl #[.slice A0_0 l0_0.length c0_0, .int .i64 a1] rfl (by (try simp only [List.map_toArray, List.map_cons, List.map_nil]); first | done | rfl | (simp only [List.length_drop, List.length_take]; rfl)) ?_; (with_reducible refine (laws_szIntSS.calls k _ _ l0_0 a1 t104 _ ?side1 ?side2 A3.out).mono ?_); (case side1 => repeat (first | exact (Kd.C_below HR0_0.out HB.out) | (with_reducible refine Kd.C_alloc ?_ _) | (with_reducible refine Kd.C_drewN ?_ _) | (with_reducible refine Kd.C_drew ?_))); (case side2 => exact HC0_0.out); rintro e w' ⟨rfl, ⟨nd, rfl⟩⟩; refine ⟨_, rfl, ?_⟩) | ((with_reducible refine gate_callee (f := 50) rfl ?_); refine goesL_ (some 14) rfl rfl Try.func50 (by kernel_rfl) rfl #[.slice A0_1 l0_1.length c0_1, .int .i64 t104] rfl (by (try simp only [List.map_toArray, List.map_cons, List.map_nil]); first | done | rfl | (simp only [List.length_drop, List.length_take]; rfl)) ?_; (with_reducible refine (laws_szIntS.calls _ _ l0_1 t104 t105 _ ?side1 ?side2 A7.out).mono ?_); (case side1 => repeat (first | exact (Kd.C_below HR0_1.out (by repeat (first | (with_reducible first | exact HB.out | apply below_alloc | apply pw_below_drewN | apply below_drew1 | refine below_set ?_ GE103.out) | exact HB.out))) | (with_reducible refine Kd.C_alloc ?_ _) | (with_reducible refine Kd.C_drewN ?_ _) | (with_reducible refine Kd.C_drew ?_))); (case side2 => exact HC0_1.out); rintro e w' ⟨rfl, ⟨nd, rfl⟩⟩; refine ⟨_, rfl, ?_⟩))
   go_ret
   exact ⟨by first | rfl | (simp [errW_none, errW_some] <;> rfl) | (simp [*, errW_none, errW_some] <;> rfl), by repeat (first | (with_reducible first | exact HB.out | apply below_alloc | apply pw_below_drewN | apply below_drew1 | refine below_set ?_ GE103.out) | exact HB.out)⟩
end Go.Proofs.Ythideghgdmokkaa.Print
end
section
namespace Go.Proofs.Ythideghgdmokkaa.Print
open Go.RowKit Go.Proofs.YthideghgdmokkaaW.PrintWords Go.Proofs.YthideghgdmokkaaW.PrintLast Go.Proofs.YthideghgdmokkaaW.PrintMore
attribute [local go_sem] max2_int min2_int max_two min_two max_three min_three max_four min_four   -- for this text's walks alone
set_option linter.unusedVariables false
set_option linter.unusedSimpArgs false
def laws_eqIntS.l0 : Nat → List Int → List Int → Int → Option (Bool)
 | 0, _, _, _ => none
 | k + 1, x0, x1, x5 => if x5 < (x0.length : Int) then (if 0 ≤ x5 then (if x5 < (x1.length : Int) then (if (rd x0 x5) = (rd x1 x5) then (laws_eqIntS.l0 k x0 x1 (wrap64 (x5 + 1))) else (some false)) else (none)) else (none)) else (some true)
def laws_eqIntS.f (k : Nat) (l0 : List Int) (l1 : List Int) : Option (Bool) := if (l0.length : Int) = (l1.length : Int) then (laws_eqIntS.l0 k l0 l1 0) else (some false)
set_option maxHeartbeats 8000000 in
set_option maxRecDepth 100000 in
theorem laws_eqIntS.calls (k : Nat) (A0 : Option Addr) (c0 : Nat) (l0 : List Int) (A1 : Option Addr) (c1 : Nat) (l1 : List Int) (r : Bool) (w : World) (hr0 : Kd.C (Kd.int .i64) w A0 l0.length l0) (hc0 : l0.length ≤ c0) (hr1 : Kd.C (Kd.int .i64) w A1 l1.length l1) (hc1 : l1.length ≤ c1) (h : laws_eqIntS.f k l0 l1 = some r) :
  Calls Try.prog 21 #[.slice A0 l0.length c0, .slice A1 l1.length c1] w fun e w' => e = .returned (.bool r) ∧ Drawn0 w w' := by
 have HR0 := Aside0.mk hr0
 have HC0 := Aside0.mk hc0
 clear hr0 hc0
 have HR1 := Aside0.mk hr1
 have HC1 := Aside0.mk hc1
 clear hr1 hc1
 have H : (if (l0.length : Int) = (l1.length : Int) then (laws_eqIntS.l0 k l0 l1 0) else (some false)) = some r := h
 clear h
 by_cases c3 : (l0.length : Int) = (l1.length : Int)
 ·rw [if_pos c3] at H
  have c3b0 : ((l0.length : Int) == (l1.length : Int)) = true := beq_iff_eq.mpr c3
  have c3b1 : ((l0.length : Int) != (l1.length : Int)) = false := bne_eq_false_iff_eq.mpr c3
  have c3b2 : (l0.length == l1.length) = true := by first | simpa using c3 | (simp at c3 ⊢; omega)
  clear c3
  have H' := Aside0.mk H
  clear H
  go_enter Try.func21, Try.ntmps21
  go_wp2
  repeat (go_quiet (fail); try go_wp2)
  go_loopg [5] k (fun kq v5 w' => ∃ (x5_1 : Int), v5 = .int .i64 x5_1 ∧ Aside0 (laws_eqIntS.l0 kq l0 l1 x5_1 = some r) ∧ Aside0 (kq ≤ k) ∧ Drawn0 w w')
  case atStart => exact ⟨(0), (by first | rfl | (simp; done) | (simp [*]; done)), H', ⟨Nat.le_refl _⟩, by repeat (first | exact Drawn0.refl _ | apply Drawn0.step)⟩
  case round =>
   clear H'
   try clear c1
   try clear c2
   try clear p2
   try clear c3
   try clear c3b0
   try clear c3b1
   try clear c3b2
   obtain ⟨x5_1, rfl, HA, HK1, ⟨m1, rfl⟩⟩ := hrel
   cases gk with
   | zero => exact absurd HA.out (by simp [laws_eqIntS.l0])
   | succ k1 =>
    have H := HA.out
    clear HA
    simp only [laws_eqIntS.l0] at H
    by_cases c4 : x5_1 < (l0.length : Int)
    ·rw [if_pos c4] at H
     have c4b0 : decide (x5_1 < (l0.length : Int)) = true := decide_eq_true c4
     clear c4
     by_cases c5 : 0 ≤ x5_1
     ·rw [if_pos c5] at H
      have c5b0 : decide (0 ≤ x5_1) = true := decide_eq_true c5
      clear c5
      by_cases c6 : x5_1 < (l1.length : Int)
      ·rw [if_pos c6] at H
       have c6b0 : decide (x5_1 < (l1.length : Int)) = true := decide_eq_true c6
       clear c6
       by_cases c7 : (rd l0 x5_1) = (rd l1 x5_1)
       ·rw [if_pos c7] at H
        have c7b0 : ((rd l0 x5_1) == (rd l1 x5_1)) = true := beq_iff_eq.mpr c7
        have c7b1 : ((rd l0 x5_1) != (rd l1 x5_1)) = false := bne_eq_false_iff_eq.mpr c7
        clear c7
        have H' := Aside0.mk H
        clear H
        have p263 : 0 ≤ (x5_1 : Int) := of_decide_eq_true (by first | (with_reducible assumption) | assumption)
        have q263 : x5_1 < (l0.length : Int) := of_decide_eq_true (by first | (with_reducible assumption) | assumption)
        obtain ⟨ad263, e263, hx263_0⟩ := Kd.at_int HR0.out x5_1 p263 q263
        cases e263
        replace p263 := eq_true p263
        replace q263 := eq_true q263
        have p264 : 0 ≤ (x5_1 : Int) := of_decide_eq_true (by first | (with_reducible assumption) | assumption)
        have q264 : x5_1 < (l1.length : Int) := of_decide_eq_true (by first | (with_reducible assumption) | assumption)
        obtain ⟨ad264, e264, hx264_0⟩ := Kd.at_int HR1.out x5_1 p264 q264
        cases e264
        replace p264 := eq_true p264
        replace q264 := eq_true q264
        go_wp2
        repeat (go_quiet (fail); try go_wp2)
        go_roundg k1
        case measure => have := HK1.out; omega
        case rel => exact ⟨(wrap64 (x5_1 + 1)), (by first | rfl | (simp; done) | (simp [*]; done)), H', ⟨by have := HK1.out; omega⟩, by repeat (first | exact Drawn0.refl _ | apply Drawn0.step)⟩
       ·rw [if_neg c7] at H
        have c7b0 : ((rd l0 x5_1) == (rd l1 x5_1)) = false := beq_eq_false_iff_ne.mpr c7
        have c7b1 : ((rd l0 x5_1) != (rd l1 x5_1)) = true := bne_iff_ne.mpr c7
        obtain rfl := Option.some.inj H
        have p263 : 0 ≤ (x5_1 : Int) := of_decide_eq_true (by first | (with_reducible assumption) | assumption)
        have q263 : x5_1 < (l0.length : Int) := of_decide_eq_true (by first | (with_reducible assumption) | assumption)
        obtain ⟨ad263, e263, hx263_0⟩ := Kd.at_int HR0.out x5_1 p263 q263
        cases e263
        replace p263 := eq_true p263
        replace q263 := eq_true q263
        have p264 : 0 ≤ (x5_1 : Int) := of_decide_eq_true (by first | (with_reducible assumption) | assumption)
        have q264 : x5_1 < (l1.length : Int) := of_decide_eq_true (by first | (with_reducible assumption) | assumption)
        obtain ⟨ad264, e264, hx264_0⟩ := Kd.at_int HR1.out x5_1 p264 q264
        cases e264
        replace p264 := eq_true p264
        replace q264 := eq_true q264
        go_wp2
        repeat (go_quiet (fail); try go_wp2)
        go_ret
        exact ⟨by first | rfl | (simp; done) | (simp [*]; done), by repeat (first | exact Drawn0.refl _ | apply Drawn0.step)⟩
      ·rw [if_neg c6] at H
       exact absurd H (by simp)
     ·rw [if_neg c5] at H
      exact absurd H (by simp)
    ·rw [if_neg c4] at H
     have c4b0 : decide (x5_1 < (l0.length : Int)) = false := decide_eq_false c4
     clear c4
     obtain rfl := Option.some.inj H
     go_wp2
     repeat (go_quiet (fail); try go_wp2)
     go_ret
     exact ⟨by first | rfl | (simp; done) | (simp [*]; done), by repeat (first | exact Drawn0.refl _ | apply Drawn0.step)⟩
 ·rw [if_neg c3] at H
  have c3b0 : ((l0.length : Int) == (l1.length : Int)) = false := beq_eq_false_iff_ne.mpr c3
  have c3b1 : ((l0.length : Int) != (l1.length : Int)) = true := bne_iff_ne.mpr c3
  have c3b2 : (l0.length == l1.length) = false := by first | simpa using c3 | (simp at c3 ⊢; omega)
  obtain rfl := Option.some.inj H
  go_enter Try.func21, Try.ntmps21
  go_wp2
  repeat (go_quiet (fail); try go_wp2)
  go_ret
  exact ⟨by first | rfl | (simp; done) | (simp [*]; done), by repeat (first | exact Drawn0.refl _ | apply Drawn0.step)⟩
end Go.Proofs.Ythideghgdmokkaa.Print
end
section
namespace Go.Proofs.Ythideghgdmokkaa.Print
open Go.RowKit Go.Proofs.YthideghgdmokkaaW.PrintWords Go.Proofs.YthideghgdmokkaaW.PrintLast Go.Proofs.YthideghgdmokkaaW.PrintMore
attribute [local go_sem] max2_int min2_int max_two min_two max_three min_three max_four min_four   -- for this text's walks alone
set_option linter.unusedVariables false
set_option linter.unusedSimpArgs false
def laws_eqIntSS.l0 : Nat → List (List Int) → List (List Int) → Int → Option (Bool)
 | 0, _, _, _ => none
 | k + 1, x0, x1, x5 => if x5 < (x0.length : Int) then (if 0 ≤ x5 then (if x5 < (x1.length : Int) then ((laws_eqIntS.f k (rd_L1 x0 x5) (rd_L1 x1 x5)).bind fun t267 => (if t267 = true then (laws_eqIntSS.l0 k x0 x1 (wrap64 (x5 + 1))) else (some false))) else (none)) else (none)) else (some true)
def laws_eqIntSS.f (k : Nat) (l0 : List (List Int)) (l1 : List (List Int)) : Option (Bool) := if (l0.length : Int) = (l1.length : Int) then (laws_eqIntSS.l0 k l0 l1 0) else (some false)
set_option maxHeartbeats 8000000 in
set_option maxRecDepth 100000 in
theorem laws_eqIntSS.calls (k : Nat) (A0 : Option Addr) (c0 : Nat) (l0 : List (List Int)) (A1 : Option Addr) (c1 : Nat) (l1 : List (List Int)) (r : Bool) (w : World) (hr0 : Kd.C (Kd.slice 3 (Kd.int .i64)) w A0 l0.length l0) (hc0 : l0.length ≤ c0) (hr1 : Kd.C (Kd.slice 3 (Kd.int .i64)) w A1 l1.length l1) (hc1 : l1.length ≤ c1) (h : laws_eqIntSS.f k l0 l1 = some r) :
  Calls Try.prog 59 #[.slice A0 l0.length c0, .slice A1 l1.length c1] w fun e w' => e = .returned (.bool r) ∧ Drawn0 w w' := by
 have HR0 := Aside0.mk hr0
 have HC0 := Aside0.mk hc0
 clear hr0 hc0
 have HR1 := Aside0.mk hr1
 have HC1 := Aside0.mk hc1
 clear hr1 hc1
 have H : (if (l0.length : Int) = (l1.length : Int) then (laws_eqIntSS.l0 k l0 l1 0) else (some false)) = some r := h
 clear h
 by_cases c3 : (l0.length : Int) = (l1.length : Int)
 ·rw [if_pos c3] at H
  have c3b0 : ((l0.length : Int) == (l1.length : Int)) = true := beq_iff_eq.mpr c3
  have c3b1 : ((l0.length : Int) != (l1.length : Int)) = false := bne_eq_false_iff_eq.mpr c3
  have c3b2 : (l0.length == l1.length) = true := by first | simpa using c3 | (simp at c3 ⊢; omega)
  clear c3
  have H' := Aside0.mk H
  clear H
  go_enter Try.func59, Try.ntmps59
  go_wp2
  repeat (go_quiet (fail); try go_wp2)
  go_loopg [5] k (fun kq v5 w' => ∃ (x5_1 : Int), v5 = .int .i64 x5_1 ∧ Aside0 (laws_eqIntSS.l0 kq l0 l1 x5_1 = some r) ∧ Aside0 (kq ≤ k) ∧ Drawn0 w w')
  case atStart => exact ⟨(0), (by first | rfl | (simp; done) | (simp [*]; done)), H', ⟨Nat.le_refl _⟩, by repeat (first | exact Drawn0.refl _ | apply Drawn0.step)⟩
  case round =>
   clear H'
   try clear c1
   try clear p2
   try clear c3
   try clear c3b0
   try clear c3b1
   try clear c3b2
   obtain ⟨x5_1, rfl, HA, HK1, ⟨m1, rfl⟩⟩ := hrel
   cases gk with
   | zero => exact absurd HA.out (by simp [laws_eqIntSS.l0])
   | succ k1 =>
    have H := HA.out
    clear HA
    simp only [laws_eqIntSS.l0] at H
    by_cases c4 : x5_1 < (l0.length : Int)
    ·rw [if_pos c4] at H
     have c4b0 : decide (x5_1 < (l0.length : Int)) = true := decide_eq_true c4
     clear c4
     by_cases c5 : 0 ≤ x5_1
     ·rw [if_pos c5] at H
      have c5b0 : decide (0 ≤ x5_1) = true := decide_eq_true c5
      clear c5
      by_cases c6 : x5_1 < (l1.length : Int)
      ·rw [if_pos c6] at H
       have c6b0 : decide (x5_1 < (l1.length : Int)) = true := decide_eq_true c6
       clear c6
       replace H := Option.bind_eq_some_iff.mp H
       obtain ⟨t267, A70, H⟩ := H
       replace H : (if t267 = true then (laws_eqIntSS.l0 k1 l0 l1 (wrap64 (x5_1 + 1))) else (some false)) = some r := H
       have A7 := Aside0.mk A70
       clear A70
       by_cases c8 : t267 = true
       ·subst c8
        have H1 : (laws_eqIntSS.l0 k1 l0 l1 (wrap64 (x5_1 + 1))) = some r := by rw [if_pos rfl] at H; exact H
        clear H
        have H := H1
        clear H1
        have H' := Aside0.mk H
        clear H
        have p265 : 0 ≤ (x5_1 : Int) := of_decide_eq_true (by first | (with_reducible assumption) | assumption)
        have q265 : x5_1 < (l0.length : Int) := of_decide_eq_true (by first | (with_reducible assumption) | assumption)
        obtain ⟨ad265, A265_0, c265_0, e265, hx265_0, hl265_0, hi265_0⟩ := at_L1 HR0.out x5_1 p265 q265
        cases e265
        have HR265_0 := Aside0.mk hi265_0
        have HC265_0 := Aside0.mk hl265_0
        clear hi265_0 hl265_0
        replace p265 := eq_true p265
        replace q265 := eq_true q265
        have p266 : 0 ≤ (x5_1 : Int) := of_decide_eq_true (by first | (with_reducible assumption) | assumption)
        have q266 : x5_1 < (l1.length : Int) := of_decide_eq_true (by first | (with_reducible assumption) | assumption)
        obtain ⟨ad266, A266_0, c266_0, e266, hx266_0, hl266_0, hi266_0⟩ := at_L1 HR1.out x5_1 p266 q266
        cases e266
        have HR266_0 := Aside0.mk hi266_0
        have HC266_0 := Aside0.mk hl266_0
        clear hi266_0 hl266_0
        replace p266 := eq_true p266
        replace q266 := eq_true q266
        go_wp2_with (first | (go_at_call 21; (with_reducible refine (laws_eqIntS.calls k1 _ _ (rd_L1 l0 x5_1) _ _ (rd_L1 l1 x5_1) true _ ?side1 ?side2 ?side3 ?side4 A7.out).mono ?_); (case side1 => repeat (first | exact HR265_0.out | (with_reducible refine Kd.C_alloc ?_ _) | (with_reducible refine Kd.C_drewN ?_ _) | (with_reducible refine Kd.C_drew ?_))); (case side2 => exact HC265_0.out); (case side3 => repeat (first | exact HR266_0.out | (with_reducible refine Kd.C_alloc ?_ _) | (with_reducible refine Kd.C_drewN ?_ _) | (with_reducible refine Kd.C_drew ?_))); (case side4 => exact HC266_0.out); rintro e w' ⟨rfl, ⟨nd, rfl⟩⟩; (try first | exact ⟨rfl, _, World.drewN_drewN _ _ _⟩ | exact ⟨rfl, _, Eq.trans (World.drewN_drewN _ _ _) (congrArg (World.drewN _) (Nat.add_assoc _ _ _))⟩)))
        repeat (go_quiet (first | (go_at_call 21; (with_reducible refine (laws_eqIntS.calls k1 _ _ (rd_L1 l0 x5_1) _ _ (rd_L1 l1 x5_1) true _ ?side1 ?side2 ?side3 ?side4 A7.out).mono ?_); (case side1 => repeat (first | exact HR265_0.out | (with_reducible refine Kd.C_alloc ?_ _) | (with_reducible refine Kd.C_drewN ?_ _) | (with_reducible refine Kd.C_drew ?_))); (case side2 => exact HC265_0.out); (case side3 => repeat (first | exact HR266_0.out | (with_reducible refine Kd.C_alloc ?_ _) | (with_reducible refine Kd.C_drewN ?_ _) | (with_reducible refine Kd.C_drew ?_))); (case side4 => exact HC266_0.out); rintro e w' ⟨rfl, ⟨nd, rfl⟩⟩; (try first | exact ⟨rfl, _, World.drewN_drewN _ _ _⟩ | exact ⟨rfl, _, Eq.trans (World.drewN_drewN _ _ _) (congrArg (World.drewN _) (Nat.add_assoc _ _ _))⟩))); try go_wp2_with (first | (go_at_call 21; (with_reducible refine (laws_eqIntS.calls k1 _ _ (rd_L1 l0 x5_1) _ _ (rd_L1 l1 x5_1) true _ ?side1 ?side2 ?side3 ?side4 A7.out).mono ?_); (case side1 => repeat (first | exact HR265_0.out | (with_reducible refine Kd.C_alloc ?_ _) | (with_reducible refine Kd.C_drewN ?_ _) | (with_reducible refine Kd.C_drew ?_))); (case side2 => exact HC265_0.out); (case side3 => repeat (first | exact HR266_0.out | (with_reducible refine Kd.C_alloc ?_ _) | (with_reducible refine Kd.C_drewN ?_ _) | (with_reducible refine Kd.C_drew ?_))); (case side4 => exact HC266_0.out); rintro e w' ⟨rfl, ⟨nd, rfl⟩⟩; (try first | exact ⟨rfl, _, World.drewN_drewN _ _ _⟩ | exact ⟨rfl, _, Eq.trans (World.drewN_drewN _ _ _) (congrArg (World.drewN _) (Nat.add_assoc _ _ _))⟩))))
        go_roundg k1
        case measure => have := HK1.out; omega
        case rel => exact ⟨(wrap64 (x5_1 + 1)), (by first | rfl | (simp; done) | (simp [*]; done)), H', ⟨by have := HK1.out; omega⟩, by repeat (first | exact Drawn0.refl _ | apply Drawn0.step)⟩
       ·replace c8 := Bool.eq_false_iff.mpr c8
        subst c8
        have H1 : (some false) = some r := by rw [if_neg (show ¬ (false = true) by decide)] at H; exact H
        clear H
        have H := H1
        clear H1
        obtain rfl := Option.some.inj H
        have p265 : 0 ≤ (x5_1 : Int) := of_decide_eq_true (by first | (with_reducible assumption) | assumption)
        have q265 : x5_1 < (l0.length : Int) := of_decide_eq_true (by first | (with_reducible assumption) | assumption)
        obtain ⟨ad265, A265_0, c265_0, e265, hx265_0, hl265_0, hi265_0⟩ := at_L1 HR0.out x5_1 p265 q265
        cases e265
        have HR265_0 := Aside0.mk hi265_0
        have HC265_0 := Aside0.mk hl265_0
        clear hi265_0 hl265_0
        replace p265 := eq_true p265
        replace q265 := eq_true q265
        have p266 : 0 ≤ (x5_1 : Int) := of_decide_eq_true (by first | (with_reducible assumption) | assumption)
        have q266 : x5_1 < (l1.length : Int) := of_decide_eq_true (by first | (with_reducible assumption) | assumption)
        obtain ⟨ad266, A266_0, c266_0, e266, hx266_0, hl266_0, hi266_0⟩ := at_L1 HR1.out x5_1 p266 q266
        cases e266
        have HR266_0 := Aside0.mk hi266_0
        have HC266_0 := Aside0.mk hl266_0
        clear hi266_0 hl266_0
        replace p266 := eq_true p266
        replace q266 := eq_true q266
        go_wp2_with (first | (go_at_call 21; (with_reducible refine (laws_eqIntS.calls k1 _ _ (rd_L1 l0 x5_1) _ _ (rd_L1 l1 x5_1) false _ ?side1 ?side2 ?side3 ?side4 A7.out).mono ?_); (case side1 => repeat (first | exact HR265_0.out | (with_reducible refine Kd.C_alloc ?_ _) | (with_reducible refine Kd.C_drewN ?_ _) | (with_reducible refine Kd.C_drew ?_))); (case side2 => exact HC265_0.out); (case side3 => repeat (first | exact HR266_0.out | (with_reducible refine Kd.C_alloc ?_ _) | (with_reducible refine Kd.C_drewN ?_ _) | (with_reducible refine Kd.C_drew ?_))); (case side4 => exact HC266_0.out); rintro e w' ⟨rfl, ⟨nd, rfl⟩⟩; (try first | exact ⟨rfl, _, World.drewN_drewN _ _ _⟩ | exact ⟨rfl, _, Eq.trans (World.drewN_drewN _ _ _) (congrArg (World.drewN _) (Nat.add_assoc _ _ _))⟩)))
        repeat (go_quiet (first | (go_at_call 21; (with_reducible refine (laws_eqIntS.calls k1 _ _ (rd_L1 l0 x5_1) _ _ (rd_L1 l1 x5_1) false _ ?side1 ?side2 ?side3 ?side4 A7.out).mono ?_); (case side1 => repeat (first | exact HR265_0.out | (with_reducible refine Kd.C_alloc ?_ _) | (with_reducible refine Kd.C_drewN ?_ _) | (with_reducible refine Kd.C_drew ?_))); (case side2 => exact HC265_0.out); (case side3 => repeat (first | exact HR266_0.out | (with_reducible refine Kd.C_alloc ?_ _) | (with_reducible refine Kd.C_drewN ?_ _) | (with_reducible refine Kd.C_drew ?_))); (case side4 => exact HC266_0.out); rintro e w' ⟨rfl, ⟨nd, rfl⟩⟩; (try first | exact ⟨rfl, _, World.drewN_drewN _ _ _⟩ | exact ⟨rfl, _, Eq.trans (World.drewN_drewN _ _ _) (congrArg (World.drewN _) (Nat.add_assoc _ _ _))⟩))); try go_wp2_with (first | (go_at_call 21; (with_reducible refine (laws_eqIntS.calls k1 _ _ (rd_L1 l0 x5_1) _ _ (rd_L1 l1 x5_1) false _ ?side1 ?side2 ?side3 ?side4 A7.out).mono ?_); (case side1 => repeat (first | exact HR265_0.out | (with_reducible refine Kd.C_alloc ?_ _) | (with_reducible refine Kd.C_drewN ?_ _) | (with_reducible refine Kd.C_drew ?_))); (case side2 => exact HC265_0.out); (case side3 => repeat (first | exact HR266_0.out | (with_reducible refine Kd.C_alloc ?_ _) | (with_reducible refine Kd.C_drewN ?_ _) | (with_reducible refine Kd.C_drew ?_))); (case side4 => exact HC266_0.out); rintro e w' ⟨rfl, ⟨nd, rfl⟩⟩; (try first | exact ⟨rfl, _, World.drewN_drewN _ _ _⟩ | exact ⟨rfl, _, Eq.trans (World.drewN_drewN _ _ _) (congrArg (World.drewN _) (Nat.add_assoc _ _ _))⟩))))
        go_ret
        exact ⟨by first | rfl | (simp; done) | (simp [*]; done), by repeat (first | exact Drawn0.refl _ | apply Drawn0.step)⟩
      ·rw [if_neg c6] at H
       exact absurd H (by simp)
     ·rw [if_neg c5] at H
      exact absurd H (by simp)
    ·rw [if_neg c4] at H
     have c4b0 : decide (x5_1 < (l0.length : Int)) = false := decide_eq_false c4
     clear c4
     obtain rfl := Option.some.inj H
     go_wp2
     repeat (go_quiet (fail); try go_wp2)
     go_ret
     exact ⟨by first | rfl | (simp; done) | (simp [*]; done), by repeat (first | exact Drawn0.refl _ | apply Drawn0.step)⟩
 ·rw [if_neg c3] at H
  have c3b0 : ((l0.length : Int) == (l1.length : Int)) = false := beq_eq_false_iff_ne.mpr c3
  have c3b1 : ((l0.length : Int) != (l1.length : Int)) = true := bne_iff_ne.mpr c3
  have c3b2 : (l0.length == l1.length) = false := by first | simpa using c3 | (simp at c3 ⊢; omega)
  obtain rfl := Option.some.inj H
  go_enter Try.func59, Try.ntmps59
  go_wp2
  repeat (go_quiet (fail); try go_wp2)
  go_ret
  exact ⟨by first | rfl | (simp; done) | (simp [*]; done), by repeat (first | exact Drawn0.refl _ | apply Drawn0.step)⟩
end Go.Proofs.Ythideghgdmokkaa.Print
end
section
namespace Go.Proofs.Ythideghgdmokkaa.Print
open Go.RowKit Go.Proofs.YthideghgdmokkaaW.PrintWords Go.Proofs.YthideghgdmokkaaW.PrintLast Go.Proofs.YthideghgdmokkaaW.PrintMore
attribute [local go_sem] max2_int min2_int max_two min_two max_three min_three max_four min_four   -- for this text's walks alone
set_option linter.unusedVariables false
set_option linter.unusedSimpArgs false
def laws_eqLogic.f (k : Nat) (l0_0 : List (List Int)) (l0_1 : List Int) (l1_0 : List (List Int)) (l1_1 : List Int) : Option (Bool) := (laws_eqIntSS.f k l0_0 l1_0).bind fun t270 => (if t270 = true then ((laws_eqIntS.f k l0_1 l1_1).bind fun t271 => (if t271 = true then (some true) else (some false))) else (some false))
set_option maxHeartbeats 8000000 in
set_option maxRecDepth 100000 in
theorem laws_eqLogic.calls (k : Nat) (A0_0 : Option Addr) (c0_0 : Nat) (l0_0 : List (List Int)) (A0_1 : Option Addr) (c0_1 : Nat) (l0_1 : List Int) (A1_0 : Option Addr) (c1_0 : Nat) (l1_0 : List (List Int)) (A1_1 : Option Addr) (c1_1 : Nat) (l1_1 : List Int) (r : Bool) (w : World) (hr0_0 : Kd.C (Kd.slice 3 (Kd.int .i64)) w A0_0 l0_0.length l0_0) (hc0_0 : l0_0.length ≤ c0_0) (hr0_1 : Kd.C (Kd.int .i64) w A0_1 l0_1.length l0_1) (hc0_1 : l0_1.length ≤ c0_1) (hr1_0 : Kd.C (Kd.slice 3 (Kd.int .i64)) w A1_0 l1_0.length l1_0) (hc1_0 : l1_0.length ≤ c1_0) (hr1_1 : Kd.C (Kd.int .i64) w A1_1 l1_1.length l1_1) (hc1_1 : l1_1.length ≤ c1_1) (h : laws_eqLogic.f k l0_0 l0_1 l1_0 l1_1 = some r) :
  Calls Try.prog 18 #[.agg #[.slice A0_0 l0_0.length c0_0, .slice A0_1 l0_1.length c0_1], .agg #[.slice A1_0 l1_0.length c1_0, .slice A1_1 l1_1.length c1_1]] w fun e w' => e = .returned (.bool r) ∧ Below w.heap.size w w' := by
 have hu28 := Try.underlying28
 have HR0_0 := Aside0.mk hr0_0
 have HC0_0 := Aside0.mk hc0_0
 clear hr0_0 hc0_0
 have HR0_1 := Aside0.mk hr0_1
 have HC0_1 := Aside0.mk hc0_1
 clear hr0_1 hc0_1
 have HR1_0 := Aside0.mk hr1_0
 have HC1_0 := Aside0.mk hc1_0
 clear hr1_0 hc1_0
 have HR1_1 := Aside0.mk hr1_1
 have HC1_1 := Aside0.mk hc1_1
 clear hr1_1 hc1_1
 have HB := Aside0.mk (Below.refl w.heap.size w)
 have H : ((laws_eqIntSS.f k l0_0 l1_0).bind fun t270 => (if t270 = true then ((laws_eqIntS.f k l0_1 l1_1).bind fun t271 => (if t271 = true then (some true) else (some false))) else (some false))) = some r := h
 clear h
 replace H := Option.bind_eq_some_iff.mp H
 obtain ⟨t270, A30, H⟩ := H
 replace H : (if t270 = true then ((laws_eqIntS.f k l0_1 l1_1).bind fun t271 => (if t271 = true then (some true) else (some false))) else (some false)) = some r := H
 have A3 := Aside0.mk A30
 clear A30
 by_cases c4 : t270 = true
 ·subst c4
  have H1 : ((laws_eqIntS.f k l0_1 l1_1).bind fun t271 => (if t271 = true then (some true) else (some false))) = some r := by rw [if_pos rfl] at H; exact H
  clear H
  have H := H1
  clear H1
  replace H := Option.bind_eq_some_iff.mp H
  obtain ⟨t271, A50, H⟩ := H
  replace H : (if t271 = true then (some true) else (some false)) = some r := H
  have A5 := Aside0.mk A50
  clear A50
  by_cases c6 : t271 = true
  ·subst c6
   have H1 : (some true) = some r := by rw [if_pos rfl] at H; exact H
   clear H
   have H := H1
   clear H1
   obtain rfl := Option.some.inj H
   go_enter Try.func18, Try.ntmps18
   go_wp2_with (first | ((with_reducible refine gate_dst (N := 2) rfl ?_); refine box_event ?hg (N := 2) ?hd (cs := #[.slice A0_0 l0_0.length c0_0, .slice A0_1 l0_1.length c0_1]) (t := 28) ?hr ?_; (case hd => rfl); (case hg => rfl); (case hr => first | (go_simp; done) | (go_simp; rfl)); intro gb268 hg w7 hbox hb; have n0_ := Aside0.mk (below_step (by repeat (first | (with_reducible first | exact HB.out | apply below_alloc | apply pw_below_drewN | apply below_drew1) | exact HB.out)) hb); have n1_ := Aside0.mk (hbox); have n2_ := Aside0.mk ((by rw [hg]; exact (below_size (by repeat (first | (with_reducible first | exact HB.out | apply below_alloc | apply pw_below_drewN | apply below_drew1) | exact HB.out))) : w.heap.size ≤ gb268)); have n3_ := Aside0.mk ((by rw [hg]; exact (below_size (by repeat (first | (with_reducible first | exact HB.out | apply below_alloc | apply pw_below_drewN | apply below_drew1) | exact HB.out))) : w.heap.size ≤ gb268)); clear HB; have HB := n0_; have BK268 := n1_; have GW268 := n2_; have GE268 := n3_; clear n0_ n1_ n2_ n3_; clear hb hbox hg) | ((with_reducible refine gate_dst (N := 3) rfl ?_); refine box_event ?hg (N := 3) ?hd (cs := #[.slice A1_0 l1_0.length c1_0, .slice A1_1 l1_1.length c1_1]) (t := 28) ?hr ?_; (case hd => rfl); (case hg => rfl); (case hr => first | (go_simp; done) | (go_simp; rfl)); intro gb269 hg w8 hbox hb; have n0_ := Aside0.mk (blk_below (g := gb268) (o := .cells #[.slice A0_0 l0_0.length c0_0, .slice A0_1 l0_1.length c0_1] 28 (0, 0)) (by (with_reducible repeat (first | refine blk_drewN ?_ _ | refine blk_drew ?_ | refine blk_alloc ?_ _)); exact BK268.out) hb); have n1_ := Aside0.mk (below_step (by repeat (first | (with_reducible first | exact HB.out | apply below_alloc | apply pw_below_drewN | apply below_drew1 | refine below_set ?_ GE268.out) | exact HB.out)) hb); have n2_ := Aside0.mk (hbox); have n3_ := Aside0.mk ((by rw [hg]; exact (below_size (by repeat (first | (with_reducible first | exact HB.out | apply below_alloc | apply pw_below_drewN | apply below_drew1 | refine below_set ?_ GE268.out) | exact HB.out))) : w.heap.size ≤ gb269)); have n4_ := Aside0.mk ((by rw [hg]; exact (below_size (by repeat (first | (with_reducible first | exact HB.out | apply below_alloc | apply pw_below_drewN | apply below_drew1 | refine below_set ?_ GE268.out) | exact HB.out))) : w.heap.size ≤ gb269)); have n5_ := Aside0.mk ((by rw [hg]; exact Nat.ne_of_lt (blk_lt (g := gb268) (o := .cells #[.slice A0_0 l0_0.length c0_0, .slice A0_1 l0_1.length c0_1] 28 (0, 0)) (by (with_reducible repeat (first | refine blk_drewN ?_ _ | refine blk_drew ?_ | refine blk_alloc ?_ _)); exact BK268.out)) : gb268 ≠ gb269)); have n6_ := Aside0.mk ((by rw [hg]; exact Nat.ne_of_gt (blk_lt (g := gb268) (o := .cells #[.slice A0_0 l0_0.length c0_0, .slice A0_1 l0_1.length c0_1] 28 (0, 0)) (by (with_reducible repeat (first | refine blk_drewN ?_ _ | refine blk_drew ?_ | refine blk_alloc ?_ _)); exact BK268.out)) : gb269 ≠ gb268)); clear BK268; clear HB; have BK268 := n0_; have HB := n1_; have BK269 := n2_; have GW269 := n3_; have GE269 := n4_; have NB268_269 := n5_; have NB269_268 := n6_; clear n0_ n1_ n2_ n3_ n4_ n5_ n6_; clear hb hbox hg; have hnb9 := NB268_269.out; have hnc9 := NB269_268.out; have hcz10_0 : w8.cell? ⟨gb268, 0, none⟩ = some (.slice A0_0 l0_0.length c0_0) := (blk_cell BK268.out 0).trans rfl; have hcz10_1 : w8.cell? ⟨gb268, 1, none⟩ = some (.slice A0_1 l0_1.length c0_1) := (blk_cell BK268.out 1).trans rfl; have hfz10_0 := blk_frozen BK268.out 0; have hfz10_1 := blk_frozen BK268.out 1; have hcz11_0 : w8.cell? ⟨gb269, 0, none⟩ = some (.slice A1_0 l1_0.length c1_0) := (blk_cell BK269.out 0).trans rfl; have hcz11_1 : w8.cell? ⟨gb269, 1, none⟩ = some (.slice A1_1 l1_1.length c1_1) := (blk_cell BK269.out 1).trans rfl; have hfz11_0 := blk_frozen BK269.out 0; have hfz11_1 := blk_frozen BK269.out 1) | ((with_reducible refine gate_callee (f := 59) rfl ?_); refine goesL_ (some 9) rfl rfl Try.func59 (by kernel_rfl) rfl #[.slice A0_0 l0_0.length c0_0, .slice A1_0 l1_0.length c1_0] rfl (by (try simp only [List.map_toArray, List.map_cons, List.map_nil]); first | done | rfl | (simp only [List.length_drop, List.length_take]; rfl)) ?_; (with_reducible refine (laws_eqIntSS.calls k _ _ l0_0 _ _ l1_0 true _ ?side1 ?side2 ?side3 ?side4 A3.out).mono ?_); (case side1 => repeat (first | exact (Kd.C_below HR0_0.out HB.out) | (with_reducible refine Kd.C_alloc ?_ _) | (with_reducible refine Kd.C_drewN ?_ _) | (with_reducible refine Kd.C_drew ?_))); (case side2 => exact HC0_0.out); (case side3 => repeat (first | exact (Kd.C_below HR1_0.out HB.out) | (with_reducible refine Kd.C_alloc ?_ _) | (with_reducible refine Kd.C_drewN ?_ _) | (with_reducible refine Kd.C_drew ?_))); (case side4 => exact HC1_0.out); rintro e w' ⟨rfl, ⟨nd, rfl⟩⟩; refine ⟨_, rfl, ?_⟩) | ((with_reducible refine gate_callee (f := 21) rfl ?_); refine goesL_ (some 15) rfl rfl Try.func21 (by kernel_rfl) rfl #[.slice A0_1 l0_1.length c0_1, .slice A1_1 l1_1.length c1_1] rfl (by (try simp only [List.map_toArray, List.map_cons, List.map_nil]); first | done | rfl | (simp only [List.length_drop, List.length_take]; rfl)) ?_; (with_reducible refine (laws_eqIntS.calls k _ _ l0_1 _ _ l1_1 true _ ?side1 ?side2 ?side3 ?side4 A5.out).mono ?_); (case side1 => repeat (first | exact (Kd.C_below HR0_1.out (by repeat (first | (with_reducible first | exact HB.out | apply below_alloc | apply pw_below_drewN | apply below_drew1 | refine below_set ?_ GE268.out | refine below_set ?_ GE269.out) | exact HB.out))) | (with_reducible refine Kd.C_alloc ?_ _) | (with_reducible refine Kd.C_drewN ?_ _) | (with_reducible refine Kd.C_drew ?_))); (case side2 => exact HC0_1.out); (case side3 => repeat (first | exact (Kd.C_below HR1_1.out (by repeat (first | (with_reducible first | exact HB.out | apply below_alloc | apply pw_below_drewN | apply below_drew1 | refine below_set ?_ GE268.out | refine below_set ?_ GE269.out) | exact HB.out))) | (with_reducible refine Kd.C_alloc ?_ _) | (with_reducible refine Kd.C_drewN ?_ _) | (with_reducible refine Kd.C_drew ?_))); (case side4 => exact HC1_1.out); rintro e w' ⟨rfl, ⟨nd, rfl⟩⟩; refine ⟨_, rfl, ?_⟩))
   go_ret
   exact ⟨by first | rfl | (simp [errW_none, errW_some] <;> rfl) | (simp [*, errW_none, errW_some] <;> rfl), by repeat (first | (with_reducible first | exact HB.out | apply below_alloc | apply pw_below_drewN | apply below_drew1 | refine below_set ?_ GE268.out | refine below_set ?_ GE269.out) | exact HB.out)⟩
  ·replace c6 := Bool.eq_false_iff.mpr c6
   subst c6
   have H1 : (some false) = some r := by rw [if_neg (show ¬ (false = true) by decide)] at H; exact H
   clear H
   have H := H1
   clear H1
   obtain rfl := Option.some.inj H
   go_enter Try.func18, Try.ntmps18
   go_wp2_with (first | ((with_reducible refine gate_dst (N := 2) rfl ?_); refine box_event ?hg (N := 2) ?hd (cs := #[.slice A0_0 l0_0.length c0_0, .slice A0_1 l0_1.length c0_1]) (t := 28) ?hr ?_; (case hd => rfl); (case hg => rfl); (case hr => first | (go_simp; done) | (go_simp; rfl)); intro gb268 hg w12 hbox hb; have n0_ := Aside0.mk (below_step (by repeat (first | (with_reducible first | exact HB.out | apply below_alloc | apply pw_below_drewN | apply below_drew1) | exact HB.out)) hb); have n1_ := Aside0.mk (hbox); have n2_ := Aside0.mk ((by rw [hg]; exact (below_size (by repeat (first | (with_reducible first | exact HB.out | apply below_alloc | apply pw_below_drewN | apply below_drew1) | exact HB.out))) : w.heap.size ≤ gb268)); have n3_ := Aside0.mk ((by rw [hg]; exact (below_size (by repeat (first | (with_reducible first | exact HB.out | apply below_alloc | apply pw_below_drewN | apply below_drew1) | exact HB.out))) : w.heap.size ≤ gb268)); clear HB; have HB := n0_; have BK268 := n1_; have GW268 := n2_; have GE268 := n3_; clear n0_ n1_ n2_ n3_; clear hb hbox hg) | ((with_reducible refine gate_dst (N := 3) rfl ?_); refine box_event ?hg (N := 3) ?hd (cs := #[.slice A1_0 l1_0.length c1_0, .slice A1_1 l1_1.length c1_1]) (t := 28) ?hr ?_; (case hd => rfl); (case hg => rfl); (case hr => first | (go_simp; done) | (go_simp; rfl)); intro gb269 hg w13 hbox hb; have n0_ := Aside0.mk (blk_below (g := gb268) (o := .cells #[.slice A0_0 l0_0.length c0_0, .slice A0_1 l0_1.length c0_1] 28 (0, 0)) (by (with_reducible repeat (first | refine blk_drewN ?_ _ | refine blk_drew ?_ | refine blk_alloc ?_ _)); exact BK268.out) hb); have n1_ := Aside0.mk (below_step (by repeat (first | (with_reducible first | exact HB.out | apply below_alloc | apply pw_below_drewN | apply below_drew1 | refine below_set ?_ GE268.out) | exact HB.out)) hb); have n2_ := Aside0.mk (hbox); have n3_ := Aside0.mk ((by rw [hg]; exact (below_size (by repeat (first | (with_reducible first | exact HB.out | apply below_alloc | apply pw_below_drewN | apply below_drew1 | refine below_set ?_ GE268.out) | exact HB.out))) : w.heap.size ≤ gb269)); have n4_ := Aside0.mk ((by rw [hg]; exact (below_size (by repeat (first | (with_reducible first | exact HB.out | apply below_alloc | apply pw_below_drewN | apply below_drew1 | refine below_set ?_ GE268.out) | exact HB.out))) : w.heap.size ≤ gb269)); have n5_ := Aside0.mk ((by rw [hg]; exact Nat.ne_of_lt (blk_lt (g := gb268) (o := .cells #[.slice A0_0 l0_0.length c0_0, .slice A0_1 l0_1.length c0_1] 28 (0, 0)) (by (with_reducible repeat (first | refine blk_drewN ?_ _ | refine blk_drew ?_ | refine blk_alloc ?_ _)); exact BK268.out)) : gb268 ≠ gb269)); have n6_ := Aside0.mk ((by rw [hg]; exact Nat.ne_of_gt (blk_lt (g := gb268) (o := .cells #[.slice A0_0 l0_0.length c0_0, .slice A0_1 l0_1.length c0_1] 28 (0, 0)) (by (with_reducible repeat (first | refine blk_drewN ?_ _ | refine blk_drew ?_ | refine blk_alloc ?_ _)); exact BK268.out)) : gb269 ≠ gb268)); clear BK268; clear HB; have BK268 := n0_; have HB := n1_; have BK269 := n2_; have GW269 := n3_; have GE269 := n4_; have NB268_269 := n5_; have NB269_268 := n6_; clear n0_ n1_ n2_ n3_ n4_ n5_ n6_; clear hb hbox hg; have hnb14 := NB268_269.out; have hnc14 := NB269_268.out; have hcz15_0 : w13.cell? ⟨gb268, 0, none⟩ = some (.slice A0_0 l0_0.length c0_0) := (blk_cell BK268.out 0).trans rfl; have hcz15_1 : w13.cell? ⟨gb268, 1, none⟩ = some (.slice A0_1 l0_1.length c0_1) := (blk_cell BK268.out 1).trans rfl; have hfz15_0 := blk_frozen BK268.out 0; have hfz15_1 := blk_frozen BK268.out 1; have hcz16_0 : w13.cell? ⟨gb269, 0, none⟩ = some (.slice A1_0 l1_0.length c1_0) := (blk_cell BK269.out 0).trans rfl; have hcz16_1 : w13.cell? ⟨gb269, 1, none⟩ = some (.slice A1_1 l1_1.length c1_1) := (blk_cell BK269.out 1).trans rfl; have hfz16_0 := blk_frozen BK269.out 0; have hfz16_1 := blk_frozen BK269.out 1) | ((with_reducible refine gate_callee (f := 59) rfl ?_); refine goesL_ (some 9) rfl rfl Try.func59 (by kernel_rfl) rfl #[.slice A0_0 l0_0.length c0_0, .slice A1_0 l1_0.length c1_0] rfl (by (try simp only [List.map_toArray, List.map_cons, List.map_nil]); first | done | rfl | (simp only [List.length_drop, List.length_take]; rfl)) ?_; (with_reducible refine (laws_eqIntSS.calls k _ _ l0_0 _ _ l1_0 true _ ?side1 ?side2 ?side3 ?side4 A3.out).mono ?_); (case side1 => repeat (first | exact (Kd.C_below HR0_0.out HB.out) | (with_reducible refine Kd.C_alloc ?_ _) | (with_reducible refine Kd.C_drewN ?_ _) | (with_reducible refine Kd.C_drew ?_))); (case side2 => exact HC0_0.out); (case side3 => repeat (first | exact (Kd.C_below HR1_0.out HB.out) | (with_reducible refine Kd.C_alloc ?_ _) | (with_reducible refine Kd.C_drewN ?_ _) | (with_reducible refine Kd.C_drew ?_))); (case side4 => exact HC1_0.out); rintro e w' ⟨rfl, ⟨nd, rfl⟩⟩; refine ⟨_, rfl, ?_⟩) | ((with_reducible refine gate_callee (f := 21) rfl ?_); refine goesL_ (some 15) rfl rfl Try.func21 (by kernel_rfl) rfl #[.slice A0_1 l0_1.length c0_1, .slice A1_1 l1_1.length c1_1] rfl (by (try simp only [List.map_toArray, List.map_cons, List.map_nil]); first | done | rfl | (simp only [List.length_drop, List.length_take]; rfl)) ?_; (with_reducible refine (laws_eqIntS.calls k _ _ l0_1 _ _ l1_1 false _ ?side1 ?side2 ?side3 ?side4 A5.out).mono ?_); (case side1 => repeat (first | exact (Kd.C_below HR0_1.out (by repeat (first | (with_reducible first | exact HB.out | apply below_alloc | apply pw_below_drewN | apply below_drew1 | refine below_set ?_ GE268.out | refine below_set ?_ GE269.out) | exact HB.out))) | (with_reducible refine Kd.C_alloc ?_ _) | (with_reducible refine Kd.C_drewN ?_ _) | (with_reducible refine Kd.C_drew ?_))); (case side2 => exact HC0_1.out); (case side3 => repeat (first | exact (Kd.C_below HR1_1.out (by repeat (first | (with_reducible first | exact HB.out | apply below_alloc | apply pw_below_drewN | apply below_drew1 | refine below_set ?_ GE268.out | refine below_set ?_ GE269.out) | exact HB.out))) | (with_reducible refine Kd.C_alloc ?_ _) | (with_reducible refine Kd.C_drewN ?_ _) | (with_reducible refine Kd.C_drew ?_))); (case side4 => exact HC1_1.out); rintro e w' ⟨rfl, ⟨nd, rfl⟩⟩; refine ⟨_, rfl, ?_⟩))
   go_ret
   exact ⟨by first | rfl | (simp [errW_none, errW_some] <;> rfl) | (simp [*, errW_none, errW_some] <;> rfl), by repeat (first | (with_reducible first | exact HB.out | apply below_alloc | apply pw_below_drewN | apply below_drew1 | refine below_set ?_ GE268.out | refine below_set ?_ GE269.out) | exact HB.out)⟩
 ·replace c4 := Bool.eq_false_iff.mpr c4
  subst c4
  have H1 : (some false) = some r := by rw [if_neg (show ¬ (false = true) by decide)] at H; exact H
  clear H
  have H := H1
  clear H1
  obtain rfl := Option.some.inj H
  go_enter Try.func18, Try.ntmps18
  go_wp2_with (first | ((with_reducible refine gate_dst (N := 2) rfl ?_); refine box_event ?hg (N := 2) ?hd (cs := #[.slice A0_0 l0_0.length c0_0, .slice A0_1 l0_1.length c0_1]) (t := 28) ?hr ?_; (case hd => rfl); (case hg => rfl); (case hr => first | (go_simp; done) | (go_simp; rfl)); intro gb268 hg w17 hbox hb; have n0_ := Aside0.mk (below_step (by repeat (first | (with_reducible first | exact HB.out | apply below_alloc | apply pw_below_drewN | apply below_drew1) | exact HB.out)) hb); have n1_ := Aside0.mk (hbox); have n2_ := Aside0.mk ((by rw [hg]; exact (below_size (by repeat (first | (with_reducible first | exact HB.out | apply below_alloc | apply pw_below_drewN | apply below_drew1) | exact HB.out))) : w.heap.size ≤ gb268)); have n3_ := Aside0.mk ((by rw [hg]; exact (below_size (by repeat (first | (with_reducible first | exact HB.out | apply below_alloc | apply pw_below_drewN | apply below_drew1) | exact HB.out))) : w.heap.size ≤ gb268)); clear HB; have HB := n0_; have BK268 := n1_; have GW268 := n2_; have GE268 := n3_; clear n0_ n1_ n2_ n3_; clear hb hbox hg) | ((with_reducible refine gate_dst (N := 3) rfl ?_); refine box_event ?hg (N := 3) ?hd (cs := #[.slice A1_0 l1_0.length c1_0, .slice A1_1 l1_1.length c1_1]) (t := 28) ?hr ?_; (case hd => rfl); (case hg => rfl); (case hr => first | (go_simp; done) | (go_simp; rfl)); intro gb269 hg w18 hbox hb; have n0_ := Aside0.mk (blk_below (g := gb268) (o := .cells #[.slice A0_0 l0_0.length c0_0, .slice A0_1 l0_1.length c0_1] 28 (0, 0)) (by (with_reducible repeat (first | refine blk_drewN ?_ _ | refine blk_drew ?_ | refine blk_alloc ?_ _)); exact BK268.out) hb); have n1_ := Aside0.mk (below_step (by repeat (first | (with_reducible first | exact HB.out | apply below_alloc | apply pw_below_drewN | apply below_drew1 | refine below_set ?_ GE268.out) | exact HB.out)) hb); have n2_ := Aside0.mk (hbox); have n3_ := Aside0.mk ((by rw [hg]; exact (below_size (by repeat (first | (with_reducible first | exact HB.out | apply below_alloc | apply pw_below_drewN | apply below_drew1 | refine below_set ?_ GE268.out) | exact HB.out))) : w.heap.size ≤ gb269)); have n4_ := Aside0.mk ((by rw [hg]; exact (below_size (by repeat (first | (with_reducible first | exact HB.out | apply below_alloc | apply pw_below_drewN | apply below_drew1 | refine below_set ?_ GE268.out) | exact HB.out))) : w.heap.size ≤ gb269)); have n5_ := Aside0.mk ((by rw [hg]; exact Nat.ne_of_lt (blk_lt (g := gb268) (o := .cells #[.slice A0_0 l0_0.length c0_0, .slice A0_1 l0_1.length c0_1] 28 (0, 0)) (by (with_reducible repeat (first | refine blk_drewN ?_ _ | refine blk_drew ?_ | refine blk_alloc ?_ _)); exact BK268.out)) : gb268 ≠ gb269)); have n6_ := Aside0.mk ((by rw [hg]; exact Nat.ne_of_gt (blk_lt (g := gb268) (o := .cells #[.slice A0_0 l0_0.length c0_0, .slice A0_1 l0_1.length c0_1] 28 (0, 0)) (by (with_reducible repeat (first | refine blk_drewN ?_ _ | refine blk_drew ?_ | refine blk_alloc ?_ _)); exact BK268.out)) : gb269 ≠ gb268)); clear BK268; clear HB; have BK268 := n0_; have HB := n1_; have BK269 := n2_; have GW269 := n3_; have GE269 := n4_; have NB268_269 := n5_; have NB269_268 := n6_; clear n0_ n1_ n2_ n3_ n4_ n5_ n6_; clear hb hbox hg; have hnb19 := NB268_269.out; have hnc19 := NB269_268.out; have hcz20_0 : w18.cell? ⟨gb268, 0, none⟩ = some (.slice A0_0 l0_0.length c0_0) := (blk_cell BK268.out 0).trans rfl; have hcz20_1 : w18.cell? ⟨gb268, 1, none⟩ = some (.slice A0_1 l0_1.length c0_1) := (blk_cell BK268.out 1).trans rfl; have hfz20_0 := blk_frozen BK268.out 0; have hfz20_1 := blk_frozen BK268.out 1; have hcz21_0 : w18.cell? ⟨gb269, 0, none⟩ = some (.slice A1_0 l1_0.length c1_0) := (blk_cell BK269.out 0).trans rfl; have hcz21_1 : w18.cell? ⟨gb269, 1, none⟩ = some (.slice A1_1 l1_1.length c1_1) := (blk_cell BK269.out 1).trans rfl; have hfz21_0 := blk_frozen BK269.out 0; have hfz21_1 := blk_frozen BK269.out 1) | ((with_reducible refine gate_callee (f := 59) rfl ?_); refine goesL_ (some 9) rfl rfl Try.func59 (by kernel_rfl) rfl #[.slice A0_0 l0_0.length c0_0, .slice A1_0 l1_0.length c1_0] rfl (by (try simp only [List.map_toArray, List.map_cons, List.map_nil]); first | done | rfl | (simp only [List.length_drop, List.length_take]; rfl)) ?_; (with_reducible refine (laws_eqIntSS.calls k _ _ l0_0 _ _ l1_0 false _ ?side1 ?side2 ?side3 ?side4 A3.out).mono ?_); (case side1 => repeat (first | exact (Kd.C_below HR0_0.out HB.out) | (with_reducible refine Kd.C_alloc ?_ _) | (with_reducible refine Kd.C_drewN ?_ _) | (with_reducible refine Kd.C_drew ?_))); (case side2 => exact HC0_0.out); (case side3 => repeat (first | exact (Kd.C_below HR1_0.out HB.out) | (with_reducible refine Kd.C_alloc ?_ _) | (with_reducible refine Kd.C_drewN ?_ _) | (with_reducible refine Kd.C_drew ?_))); (case side4 => exact HC1_0.out); rintro e w' ⟨rfl, ⟨nd, rfl⟩⟩; refine ⟨_, rfl, ?_⟩))
  go_ret
  exact ⟨by first | rfl | (simp [errW_none, errW_some] <;> rfl) | (simp [*, errW_none, errW_some] <;> rfl), by repeat (first | (with_reducible first | exact HB.out | apply below_alloc | apply pw_below_drewN | apply below_drew1 | refine below_set ?_ GE268.out | refine below_set ?_ GE269.out) | exact HB.out)⟩
end Go.Proofs.Ythideghgdmokkaa.Print
end
section
namespace Go.Proofs.Ythideghgdmokkaa.Print
open Go.RowKit Go.Proofs.YthideghgdmokkaaW.PrintWords Go.Proofs.YthideghgdmokkaaW.PrintLast Go.Proofs.YthideghgdmokkaaW.PrintMore
set_option linter.unusedVariables false
set_option linter.unusedSimpArgs false
open Oml
def SmallL (U : List (List Int)) (N : List Int) : Prop := U.length ≤ 1048576 ∧ (∀ r ∈ U, r.length ≤ 1048576) ∧ N.length ≤ 1048576
def FitL (U : List (List Int)) (N : List Int) : Prop := U.length ≤ 9223372036854775807 ∧ (∀ r ∈ U, r.length ≤ 9223372036854775807) ∧ N.length ≤ 9223372036854775807
theorem rowmem {U : List (List Int)} {i : Nat} (h : i < U.length) : U.getD i [] ∈ U := by simp [h]
theorem szIntS_eq (xs : List Int) {a : Int} (ha : 0 ≤ a) (hb : a ≤ 1048576) (hx : xs.length ≤ 9223372036854775807) : laws_szIntS.f xs a = some (if a - xs.length < 0 then -1 else a - xs.length) := by
  unfold laws_szIntS.f
  rw [show wrap64 (a - (xs.length : Int)) = a - xs.length by unfold wrap64; omega]
  split <;> rfl
theorem szIntSS_ev (U : List (List Int)) {a : Int} (hb : a ≤ 1048576) (ha : 0 ≤ a) (hx : U.length ≤ 9223372036854775807) (hr : ∀ r ∈ U, r.length ≤ 9223372036854775807) :
    ∃ s, Ev (fun k => laws_szIntSS.f k U a) s ∧ s ≤ 1048576 ∧ (0 ≤ s → U.length ≤ 1048576 ∧ ∀ r ∈ U, r.length ≤ 1048576) := by
  unfold laws_szIntSS.f
  rw [show wrap64 (a - (U.length : Int)) = a - U.length by unfold wrap64; omega]
  by_cases hneg : a - (U.length : Int) < 0
  · refine ⟨-1, ?_, by omega, fun h => by omega⟩
    repeat (first | ((with_reducible refine Ev.ite_pos ?_ ?_); (first | assumption | (focus omega) | (focus (simp; done)))) | ((with_reducible refine Ev.ite_neg ?_ ?_); (first | assumption | (focus omega) | (focus (simp; done)))))
    exact Ev.now _
  · have key : ∀ d i, i + d = U.length → ∀ x : Int, 0 ≤ x → x ≤ 1048576 → ∃ s, Ev (fun k => laws_szIntSS.l0 k U x (i : Int)) s ∧ s ≤ 1048576 ∧ (0 ≤ s → ∀ j, i ≤ j → j < U.length → (U.getD j []).length ≤ 1048576) := by
      intro d
      induction d with
      | zero =>
        intro i hi x h0 h1
        refine ⟨x, Ev.succ ?_, h1, fun _ j h k => by omega⟩
        simp only [laws_szIntSS.l0]
        repeat (first | ((with_reducible refine Ev.ite_pos ?_ ?_); (first | assumption | (focus omega) | (focus (simp; done)))) | ((with_reducible refine Ev.ite_neg ?_ ?_); (first | assumption | (focus omega) | (focus (simp; done)))))
        exact Ev.now _
      | succ d ih =>
        intro i hi x h0 h1
        have hl := hr _ (rowmem (show i < U.length by omega))
        by_cases hn : x - ((U.getD i []).length : Int) < 0
        · refine ⟨-1, Ev.succ ?_, by omega, fun h => by omega⟩
          simp only [laws_szIntSS.l0, rdL_nat]
          repeat (first | ((with_reducible refine Ev.ite_pos ?_ ?_); (first | assumption | (focus omega) | (focus (simp; done)))) | ((with_reducible refine Ev.ite_neg ?_ ?_); (first | assumption | (focus omega) | (focus (simp; done)))))
          refine Ev.pbind (szIntS_eq _ h0 h1 hl) ?_
          rw [if_pos hn]
          repeat (first | ((with_reducible refine Ev.ite_pos ?_ ?_); (first | assumption | (focus omega) | (focus (simp; done)))) | ((with_reducible refine Ev.ite_neg ?_ ?_); (first | assumption | (focus omega) | (focus (simp; done)))))
          exact Ev.now _
        · obtain ⟨s, e1, e2, e3⟩ := ih (i + 1) (by omega) (x - ((U.getD i []).length : Int)) (by omega) (by omega)
          refine ⟨s, Ev.succ ?_, e2, fun h j hj hk => ?_⟩
          · simp only [laws_szIntSS.l0, rdL_nat]
            repeat (first | ((with_reducible refine Ev.ite_pos ?_ ?_); (first | assumption | (focus omega) | (focus (simp; done)))) | ((with_reducible refine Ev.ite_neg ?_ ?_); (first | assumption | (focus omega) | (focus (simp; done)))))
            refine Ev.pbind (szIntS_eq _ h0 h1 hl) ?_
            rw [if_neg hn, wrap_nat (show i < 4611686018427387904 by omega)]
            repeat (first | ((with_reducible refine Ev.ite_pos ?_ ?_); (first | assumption | (focus omega) | (focus (simp; done)))) | ((with_reducible refine Ev.ite_neg ?_ ?_); (first | assumption | (focus omega) | (focus (simp; done)))))
            exact e1
          · rcases Nat.lt_or_ge i j with h' | h'
            · exact e3 h j h' hk
            · obtain rfl : i = j := by omega
              omega
    obtain ⟨s, e1, e2, e3⟩ := key U.length 0 (by omega) (a - U.length) (by omega) (by omega)
    refine ⟨s, ?_, e2, fun h => ⟨by omega, fun r hr' => ?_⟩⟩
    · repeat (first | ((with_reducible refine Ev.ite_pos ?_ ?_); (first | assumption | (focus omega) | (focus (simp; done)))) | ((with_reducible refine Ev.ite_neg ?_ ?_); (first | assumption | (focus omega) | (focus (simp; done)))))
      exact e1
    · obtain ⟨i, hi, rfl⟩ := List.getElem_of_mem hr'
      have := e3 h i (by omega) hi
      simpa [hi] using this
theorem szLogic_ev {U : List (List Int)} {N : List Int} (h : FitL U N) : ∃ s, Ev (fun k => laws_szLogic.f k U N 1048576) s ∧ (0 ≤ s → SmallL U N) := by
  unfold laws_szLogic.f
  obtain ⟨s, e1, e2, e3⟩ := szIntSS_ev U (a := 1048576) (by omega) (by omega) h.1 h.2.1
  by_cases hs : s < 0
  · refine ⟨-1, Ev.bind e1 ?_, fun h => by omega⟩
    repeat (first | ((with_reducible refine Ev.ite_pos ?_ ?_); (first | assumption | (focus omega) | (focus (simp; done)))) | ((with_reducible refine Ev.ite_neg ?_ ?_); (first | assumption | (focus omega) | (focus (simp; done)))))
    exact Ev.now _
  · by_cases hn : s - (N.length : Int) < 0
    · refine ⟨-1, Ev.bind e1 ?_, fun h => by omega⟩
      repeat (first | ((with_reducible refine Ev.ite_pos ?_ ?_); (first | assumption | (focus omega) | (focus (simp; done)))) | ((with_reducible refine Ev.ite_neg ?_ ?_); (first | assumption | (focus omega) | (focus (simp; done)))))
      refine Ev.pbind (szIntS_eq N (by omega) e2 h.2.2) ?_
      rw [if_pos hn]
      repeat (first | ((with_reducible refine Ev.ite_pos ?_ ?_); (first | assumption | (focus omega) | (focus (simp; done)))) | ((with_reducible refine Ev.ite_neg ?_ ?_); (first | assumption | (focus omega) | (focus (simp; done)))))
      exact Ev.now _
    · refine ⟨s - N.length, Ev.bind e1 ?_, fun _ => ⟨(e3 (by omega)).1, (e3 (by omega)).2, by omega⟩⟩
      repeat (first | ((with_reducible refine Ev.ite_pos ?_ ?_); (first | assumption | (focus omega) | (focus (simp; done)))) | ((with_reducible refine Ev.ite_neg ?_ ?_); (first | assumption | (focus omega) | (focus (simp; done)))))
      refine Ev.pbind (szIntS_eq N (by omega) e2 h.2.2) ?_
      rw [if_neg hn]
      repeat (first | ((with_reducible refine Ev.ite_pos ?_ ?_); (first | assumption | (focus omega) | (focus (simp; done)))) | ((with_reducible refine Ev.ite_neg ?_ ?_); (first | assumption | (focus omega) | (focus (simp; done)))))
      exact Ev.now _
theorem toIntS_ev (xs : List Int) (h : xs.length ≤ 1048576) : Ev (fun k => laws_toIntS.f k xs) xs := by
  unfold laws_toIntS.f
  repeat (first | ((with_reducible refine Ev.ite_pos ?_ ?_); (first | assumption | (focus omega) | (focus (simp; done)))) | ((with_reducible refine Ev.ite_neg ?_ ?_); (first | assumption | (focus omega) | (focus (simp; done)))))
  rw [Int.toNat_natCast]
  repeat (first | ((with_reducible refine Ev.ite_pos ?_ ?_); (first | assumption | (focus omega) | (focus (simp; done)))) | ((with_reducible refine Ev.ite_neg ?_ ?_); (first | assumption | (focus omega) | (focus (simp; done)))))
  have key : ∀ d i, i + d = xs.length → ∀ ys : List Int, ys.length = xs.length → (∀ j, j < i → ys.getD j 0 = xs.getD j 0) → Ev (fun k => laws_toIntS.l0 k xs ys (i : Int)) xs := by
    intro d
    induction d with
    | zero =>
      intro i hi ys hl hy
      refine Ev.succ ?_
      simp only [laws_toIntS.l0]
      repeat (first | ((with_reducible refine Ev.ite_pos ?_ ?_); (first | assumption | (focus omega) | (focus (simp; done)))) | ((with_reducible refine Ev.ite_neg ?_ ?_); (first | assumption | (focus omega) | (focus (simp; done)))))
      refine Ev.eq (Ev.now ys) (List.ext_getElem hl fun j h1 h2 => ?_)
      have := hy j (by omega)
      simpa [h1, h2] using this
    | succ d ih =>
      intro i hi ys hl hy
      refine Ev.succ ?_
      simp only [laws_toIntS.l0, rd_nat, Int.toNat_natCast, wrap_nat (show i < 4611686018427387904 by omega)]
      repeat (first | ((with_reducible refine Ev.ite_pos ?_ ?_); (first | assumption | (focus omega) | (focus (simp; done)))) | ((with_reducible refine Ev.ite_neg ?_ ?_); (first | assumption | (focus omega) | (focus (simp; done)))))
      refine ih (i + 1) (by omega) _ (by simp [hl]) fun j hj => ?_
      rcases Nat.lt_or_ge j i with h' | h'
      · rw [← hy j h']
        simp [List.getElem?_set, show ¬ (i = j) by omega]
      · obtain rfl : j = i := by omega
        simp [at1, show j < ys.length by omega]
  exact key xs.length 0 (by omega) _ (by simp) fun j h => absurd h (Nat.not_lt_zero _)
theorem toIntSS_ev (U : List (List Int)) (h : U.length ≤ 1048576) (hr : ∀ r ∈ U, r.length ≤ 1048576) : Ev (fun k => laws_toIntSS.f k U) U := by
  unfold laws_toIntSS.f
  repeat (first | ((with_reducible refine Ev.ite_pos ?_ ?_); (first | assumption | (focus omega) | (focus (simp; done)))) | ((with_reducible refine Ev.ite_neg ?_ ?_); (first | assumption | (focus omega) | (focus (simp; done)))))
  rw [Int.toNat_natCast]
  repeat (first | ((with_reducible refine Ev.ite_pos ?_ ?_); (first | assumption | (focus omega) | (focus (simp; done)))) | ((with_reducible refine Ev.ite_neg ?_ ?_); (first | assumption | (focus omega) | (focus (simp; done)))))
  refine Ev.loop (g := fun k s i => laws_toIntSS.l0 k U s i) U.length (fun i s => s.length = U.length ∧ ∀ a, a < i → s.getD a [] = U.getD a []) (by omega) (fun s h => ?_) (fun i s hi h => ?_) _ ⟨by simp, fun a h => absurd h (Nat.not_lt_zero _)⟩
  · refine Ev.succ ?_
    simp only [laws_toIntSS.l0]
    repeat (first | ((with_reducible refine Ev.ite_pos ?_ ?_); (first | assumption | (focus omega) | (focus (simp; done)))) | ((with_reducible refine Ev.ite_neg ?_ ?_); (first | assumption | (focus omega) | (focus (simp; done)))))
    refine Ev.eq (Ev.now s) (List.ext_getElem h.1 fun a h1 h2 => ?_)
    have := h.2 a (by omega)
    simpa [h1, h2] using this
  · obtain ⟨h1, h2⟩ := h
    refine ⟨s.set i (U.getD i []), ⟨by simp [h1], fun a ha => ?_⟩, fun K => Ev.succ ?_⟩
    · rw [getD_set _ _ _ _ _ (by omega)]
      by_cases e : a = i
      · rw [if_pos e, e]
      · rw [if_neg e]; exact h2 a (by omega)
    · simp only [laws_toIntSS.l0, rdL_nat, h1, Int.toNat_natCast]
      repeat (first | ((with_reducible refine Ev.ite_pos ?_ ?_); (first | assumption | (focus omega) | (focus (simp; done)))) | ((with_reducible refine Ev.ite_neg ?_ ?_); (first | assumption | (focus omega) | (focus (simp; done)))))
      refine Ev.bind (toIntS_ev _ (hr _ (rowmem hi))) ?_
      repeat (first | ((with_reducible refine Ev.ite_pos ?_ ?_); (first | assumption | (focus omega) | (focus (simp; done)))) | ((with_reducible refine Ev.ite_neg ?_ ?_); (first | assumption | (focus omega) | (focus (simp; done)))))
      exact K
theorem toLogic_ev {U : List (List Int)} {N : List Int} (h : SmallL U N) : Ev (fun k => laws_toLogic.f k U N) (U, N) := by
  unfold laws_toLogic.f
  exact Ev.bind (toIntSS_ev U h.1 h.2.1) (Ev.bind (toIntS_ev N h.2.2) (Ev.now _))
theorem eqIntS_ev (xs : List Int) (h : xs.length ≤ 1048576) : Ev (fun k => laws_eqIntS.f k xs xs) true := by
  unfold laws_eqIntS.f
  repeat (first | ((with_reducible refine Ev.ite_pos ?_ ?_); (first | assumption | (focus omega) | (focus (simp; done)))) | ((with_reducible refine Ev.ite_neg ?_ ?_); (first | assumption | (focus omega) | (focus (simp; done)))))
  refine Ev.eq (Ev.all (n := xs.length) (g := fun k i => laws_eqIntS.l0 k xs xs i) (fun _ => true) (go := true) (stop := true) (by omega) (fun _ => ?_) fun i hi _ R hR => ?_) (by split <;> rfl)
  · refine Ev.succ ?_
    simp only [laws_eqIntS.l0]
    repeat (first | ((with_reducible refine Ev.ite_pos ?_ ?_); (first | assumption | (focus omega) | (focus (simp; done)))) | ((with_reducible refine Ev.ite_neg ?_ ?_); (first | assumption | (focus omega) | (focus (simp; done)))))
    exact Ev.now _
  · refine Ev.succ ?_
    simp only [laws_eqIntS.l0]
    repeat (first | ((with_reducible refine Ev.ite_pos ?_ ?_); (first | assumption | (focus omega) | (focus (simp; done)))) | ((with_reducible refine Ev.ite_neg ?_ ?_); (first | assumption | (focus omega) | (focus (simp; done)))))
    exact hR rfl
theorem eqLogic_ev {U : List (List Int)} {N : List Int} (h : SmallL U N) : Ev (fun k => laws_eqLogic.f k U N U N) true := by
  unfold laws_eqLogic.f
  have h1 := h.1
  refine Ev.bind (a := true) ?_ ?_
  · unfold laws_eqIntSS.f
    repeat (first | ((with_reducible refine Ev.ite_pos ?_ ?_); (first | assumption | (focus omega) | (focus (simp; done)))) | ((with_reducible refine Ev.ite_neg ?_ ?_); (first | assumption | (focus omega) | (focus (simp; done)))))
    refine Ev.eq (Ev.all (n := U.length) (g := fun k i => laws_eqIntSS.l0 k U U i) (fun _ => true) (go := true) (stop := true) (by omega) (fun _ => ?_) fun i hi _ R hR => ?_) (by split <;> rfl)
    · refine Ev.succ ?_
      simp only [laws_eqIntSS.l0]
      repeat (first | ((with_reducible refine Ev.ite_pos ?_ ?_); (first | assumption | (focus omega) | (focus (simp; done)))) | ((with_reducible refine Ev.ite_neg ?_ ?_); (first | assumption | (focus omega) | (focus (simp; done)))))
      exact Ev.now _
    · refine Ev.succ ?_
      simp only [laws_eqIntSS.l0, rdL_nat]
      repeat (first | ((with_reducible refine Ev.ite_pos ?_ ?_); (first | assumption | (focus omega) | (focus (simp; done)))) | ((with_reducible refine Ev.ite_neg ?_ ?_); (first | assumption | (focus omega) | (focus (simp; done)))))
      refine Ev.bind (eqIntS_ev _ (h.2.1 _ (rowmem hi))) ?_
      repeat (first | ((with_reducible refine Ev.ite_pos ?_ ?_); (first | assumption | (focus omega) | (focus (simp; done)))) | ((with_reducible refine Ev.ite_neg ?_ ?_); (first | assumption | (focus omega) | (focus (simp; done)))))
      exact hR rfl
  · repeat (first | ((with_reducible refine Ev.ite_pos ?_ ?_); (first | assumption | (focus omega) | (focus (simp; done)))) | ((with_reducible refine Ev.ite_neg ?_ ?_); (first | assumption | (focus omega) | (focus (simp; done)))))
    refine Ev.bind (eqIntS_ev _ h.2.2) ?_
    repeat (first | ((with_reducible refine Ev.ite_pos ?_ ?_); (first | assumption | (focus omega) | (focus (simp; done)))) | ((with_reducible refine Ev.ite_neg ?_ ?_); (first | assumption | (focus omega) | (focus (simp; done)))))
    exact Ev.now _
end Go.Proofs.Ythideghgdmokkaa.Print
end
