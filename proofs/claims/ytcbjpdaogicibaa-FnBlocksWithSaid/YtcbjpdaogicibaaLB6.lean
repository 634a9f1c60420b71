/- Part 6 of what is common to several claims of this seat: BlocksWithL, BooleanOkL, SameOkL, AlwaysOkL, ValueOfL. -/
import Derived.Test.YtcbjpdaogicibaaLB5
import Derived.Below
import Derived.Deep.Draws
import Derived.Deep.AppendLies
import Derived.Maps.AppendAt
import Derived.OwnWalk
import Derived.Laws.BytesArg
import Derived.Laws.MakeOwn
import Derived.Laws.OwnMore
import Derived.Deep.OwnRows
import Derived.Tactics
import Derived.Lib.ConvBytes
import Derived.Laws.Slices
import Derived.WalkKit
import Derived.KernelRfl
import Derived.RowKit3
import Derived.Deep.LoopGhost
import Derived.Deep.QuietTactic
import Derived.BigQuiet
import Derived.WideLaws
import Derived.Deep.DeepCutAuto
import Derived.Deep.CutBlock
import Derived.Deep.RegionHeld3
import Derived.Laws.Rows
import Derived.Lib.AppendStr
import Derived.ArgAppend
import Derived.Laws.IdiomCopy
import Derived.RowKit
import Derived.OrdersHeld
import Derived.Laws.BitsLemmas
import Derived.Test.YtcbjpdaogicibaaProg
set_option linter.all false
section
namespace Go.Proofs.Ytcbjpdaogicibaa.Print
open Go.RowKit Go.Proofs.YtcbjpdaogicibaaW.PrintWords Go.Proofs.YtcbjpdaogicibaaW.PrintLast Go.Proofs.YtcbjpdaogicibaaW.PrintMore
open Oml
def rowOk (U : List (List Int)) (i : Nat) : Bool :=
  ((U.getD i []).length == U.length) && (leB U i i && allN U.length fun j => (at2 U i j == 0 || at2 U i j == 1) && ((U.getD j []).length == U.length && !(leB U i j && (!(i == j) && leB U j i))))
def transOk (U : List (List Int)) : Bool := allN U.length fun a => allN U.length fun b => allN U.length fun c => !(leB U a b && leB U b c) || leB U a c
theorem orderB_eq (U : List (List Int)) : orderB U = (decide (1 ≤ U.length) && (decide (U.length ≤ 12) && (allN U.length (rowOk U) && transOk U))) := by
  rw [Bool.eq_iff_iff,orderB_iff]
  unfold rowOk transOk
  simp only [Bool.and_eq_true,decide_eq_true_eq,allN_iff,Bool.or_eq_true,beq_iff_eq,Bool.not_eq_true',Bool.and_eq_false_iff]
  constructor
  · intro O
    refine⟨O.pos,O.small,fun i hi=>⟨O.row i hi,O.refl i hi,fun j hj=>⟨O.bit i j hi hj,O.row j hj,?_⟩⟩,fun a ha b hb c hc=>?_⟩
    · by_cases e : i = j
      · right;left;simp [e]
      · cases k1 : leB U i j <;> cases k2 : leB U j i <;> simp
        exact O.anti i j hi hj k1 k2
    · cases k1 : leB U a b <;> cases k2 : leB U b c <;> simp
      exact O.trans a b c ha hb hc k1 k2
  · rintro ⟨h1, h2, h3, h4⟩
    refine⟨h1,h2,fun a ha=>(h3 a ha).1,fun a b ha hb=>((h3 a ha).2.2 b hb).1,fun a ha=>(h3 a ha).2.1,fun a b ha hb k1 k2=>?_,fun a b c ha hb hc k1 k2=>?_⟩
    · rcases ((h3 a ha).2.2 b hb).2.2 with e | e | e
      · rw [k1] at e;exact absurd e (by simp)
      · simpa using e
      · rw [k2] at e;exact absurd e (by simp)
    · rcases h4 a ha b hb c hc with (e | e) | e
      · rw [k1] at e;exact absurd e (by simp)
      · rw [k2] at e;exact absurd e (by simp)
      · exact e
theorem impl_OrderOk.ev (U : List (List Int)) : Ev (fun k => impl_OrderOk.f k U) (orderB U) := by
  rw [orderB_eq]
  by_cases h1:1≤U.length
  · by_cases h2 : U.length ≤ 12
    · simp only [h1, h2, decide_true, Bool.true_and]
      unfold impl_OrderOk.f
      repeat(first|((with_reducible refine Ev.ite_pos ?_ ?_);(first|assumption|(focus omega)|(focus (simp;done))))|((with_reducible refine Ev.ite_neg ?_ ?_);(first|assumption|(focus omega)|(focus (simp;done)))))
      rw [show decide ((U.length:Int)>12)=false from decide_eq_false (by omega)]
      refine Ev.succ ?_
      simp only [impl_OrderOk.j0]
      repeat(first|((with_reducible refine Ev.ite_pos ?_ ?_);(first|assumption|(focus omega)|(focus (simp;done))))|((with_reducible refine Ev.ite_neg ?_ ?_);(first|assumption|(focus omega)|(focus (simp;done)))))
      refine Ev.eq (Ev.all (n:=U.length) (g:=fun k i=>impl_OrderOk.l0 k U U.length U U.length i) (rowOk U) (go:=transOk U) (stop:=false) (by omega) (fun hr=>?_) fun i hi hj R hR=>?_) (by cases allN U.length (rowOk U) <;> rfl)
      · refine Ev.succ ?_
        simp only [impl_OrderOk.l0]
        repeat(first|((with_reducible refine Ev.ite_pos ?_ ?_);(first|assumption|(focus omega)|(focus (simp;done))))|((with_reducible refine Ev.ite_neg ?_ ?_);(first|assumption|(focus omega)|(focus (simp;done)))))
        refine Ev.eq (Ev.all (n:=U.length) (g:=fun k i=>impl_OrderOk.l2 k U U.length U.length i) (fun a=>allN U.length fun b=>allN U.length fun c=>!(leB U a b && leB U b c)||leB U a c) (go:=true) (stop:=false) (by omega) (fun _=>?_) fun a ha _ R hR=>?_) (by unfold transOk;cases allN U.length _ <;> rfl)
        · refine Ev.succ ?_
          simp only [impl_OrderOk.l2]
          repeat(first|((with_reducible refine Ev.ite_pos ?_ ?_);(first|assumption|(focus omega)|(focus (simp;done))))|((with_reducible refine Ev.ite_neg ?_ ?_);(first|assumption|(focus omega)|(focus (simp;done)))))
          exact Ev.now _
        · refine Ev.succ ?_
          simp only [impl_OrderOk.l2]
          repeat(first|((with_reducible refine Ev.ite_pos ?_ ?_);(first|assumption|(focus omega)|(focus (simp;done))))|((with_reducible refine Ev.ite_neg ?_ ?_);(first|assumption|(focus omega)|(focus (simp;done)))))
          refine Ev.all (n:=U.length) (g:=fun k i=>impl_OrderOk.l3 k U U.length a U.length a U.length i) _ (by omega) (fun h=>?_) fun b hb _ R2 hR2=>?_
          · refine Ev.succ ?_
            simp only [impl_OrderOk.l3]
            repeat(first|((with_reducible refine Ev.ite_pos ?_ ?_);(first|assumption|(focus omega)|(focus (simp;done))))|((with_reducible refine Ev.ite_neg ?_ ?_);(first|assumption|(focus omega)|(focus (simp;done)))))
            exact hR (allN_iff.2 h)
          · refine Ev.succ ?_
            simp only [impl_OrderOk.l3]
            repeat(first|((with_reducible refine Ev.ite_pos ?_ ?_);(first|assumption|(focus omega)|(focus (simp;done))))|((with_reducible refine Ev.ite_neg ?_ ?_);(first|assumption|(focus omega)|(focus (simp;done)))))
            refine Ev.all (n:=U.length) (g:=fun k i=>impl_OrderOk.l4 k U U.length a b U.length a U.length b U.length i) _ (by omega) (fun h=>?_) fun c hc _ R3 hR3=>?_
            · refine Ev.succ ?_
              simp only [impl_OrderOk.l4]
              repeat(first|((with_reducible refine Ev.ite_pos ?_ ?_);(first|assumption|(focus omega)|(focus (simp;done))))|((with_reducible refine Ev.ite_neg ?_ ?_);(first|assumption|(focus omega)|(focus (simp;done)))))
              exact hR2 (allN_iff.2 h)
            · refine Ev.succ ?_
              have ra:((U.getD a []).length:Int)=U.length:=by have:=hr a ha;unfold rowOk at this;simp only [Bool.and_eq_true,beq_iff_eq] at this;omega
              have rb:((U.getD b []).length:Int)=U.length:=by have:=hr b hb;unfold rowOk at this;simp only [Bool.and_eq_true,beq_iff_eq] at this;omega
              simp only [impl_OrderOk.l4,rdL_nat,rd_nat,rd_row,ra,rb]
              repeat(first|((with_reducible refine Ev.ite_pos ?_ ?_);(first|assumption|(focus omega)|(focus (simp;done))))|((with_reducible refine Ev.ite_neg ?_ ?_);(first|assumption|(focus omega)|(focus (simp;done)))))
              by_cases e1:at2 U a b=1
              · have f1 : leB U a b = true := by simp [leB, e1]
                by_cases e2:at2 U b c=1
                · have f2 : leB U b c = true := by simp [leB, e2]
                  by_cases e3:at2 U a c=1
                  · have f3 : leB U a c = true := by simp [leB, e3]
                    repeat(first|((with_reducible refine Ev.ite_pos ?_ ?_);(first|assumption|(focus omega)|(focus (simp;done))))|((with_reducible refine Ev.ite_neg ?_ ?_);(first|assumption|(focus omega)|(focus (simp;done)))))
                    refine Ev.eq (hR3 (by simp [f3])) (by simp [f3])
                  · have f3 : leB U a c = false := by simp [leB, e3]
                    repeat(first|((with_reducible refine Ev.ite_pos ?_ ?_);(first|assumption|(focus omega)|(focus (simp;done))))|((with_reducible refine Ev.ite_neg ?_ ?_);(first|assumption|(focus omega)|(focus (simp;done)))))
                    refine Ev.eq (Ev.now _) (by simp [f1,f2,f3])
                · have f2 : leB U b c = false := by simp [leB, e2]
                  repeat(first|((with_reducible refine Ev.ite_pos ?_ ?_);(first|assumption|(focus omega)|(focus (simp;done))))|((with_reducible refine Ev.ite_neg ?_ ?_);(first|assumption|(focus omega)|(focus (simp;done)))))
                  refine Ev.eq (hR3 (by simp [f2])) (by simp [f2])
              · have f1 : leB U a b = false := by simp [leB, e1]
                repeat(first|((with_reducible refine Ev.ite_pos ?_ ?_);(first|assumption|(focus omega)|(focus (simp;done))))|((with_reducible refine Ev.ite_neg ?_ ?_);(first|assumption|(focus omega)|(focus (simp;done)))))
                refine Ev.eq (hR3 (by simp [f1])) (by simp [f1])
      · refine Ev.succ ?_
        simp only [impl_OrderOk.l0,rdL_nat,rd_nat,rd_row]
        repeat(first|((with_reducible refine Ev.ite_pos ?_ ?_);(first|assumption|(focus omega)|(focus (simp;done))))|((with_reducible refine Ev.ite_neg ?_ ?_);(first|assumption|(focus omega)|(focus (simp;done)))))
        by_cases e1:(U.getD i []).length=U.length
        · repeat (first | ((with_reducible refine Ev.ite_pos ?_ ?_); (first | assumption | (focus omega) | (focus (simp; done)))) | ((with_reducible refine Ev.ite_neg ?_ ?_); (first | assumption | (focus omega) | (focus (simp; done)))))
          by_cases e2:at2 U i i=1
          · have f2 : leB U i i = true := by simp [leB, e2]
            rw [show (at2 U i i !=1)=false by simp [e2]]
            refine Ev.succ ?_
            simp only [impl_OrderOk.j2,rdL_nat,rd_nat,rd_row]
            repeat(first|((with_reducible refine Ev.ite_pos ?_ ?_);(first|assumption|(focus omega)|(focus (simp;done))))|((with_reducible refine Ev.ite_neg ?_ ?_);(first|assumption|(focus omega)|(focus (simp;done)))))
            rw [e1]
            refine Ev.eq (Ev.all (n:=U.length) (g:=fun k j=>impl_OrderOk.l1 k U U.length i U U.length i (U.getD i []) U.length j) (fun j=>(at2 U i j==0||at2 U i j==1) && ((U.getD j []).length==U.length && !(leB U i j && (!(i==j) && leB U j i)))) (go:=R) (stop:=false) (by omega) (fun h=>?_) fun j hj _ R2 hR2=>?_) (by unfold rowOk;simp [-List.getD_eq_getElem?_getD,e1,f2])
            · refine Ev.succ ?_
              simp only [impl_OrderOk.l1]
              repeat(first|((with_reducible refine Ev.ite_pos ?_ ?_);(first|assumption|(focus omega)|(focus (simp;done))))|((with_reducible refine Ev.ite_neg ?_ ?_);(first|assumption|(focus omega)|(focus (simp;done)))))
              exact hR (by unfold rowOk;simp only [e1,f2,BEq.rfl,Bool.true_and];exact allN_iff.2 h)
            · refine Ev.succ ?_
              simp only [impl_OrderOk.l1,rd_nat,rd_row]
              repeat(first|((with_reducible refine Ev.ite_pos ?_ ?_);(first|assumption|(focus omega)|(focus (simp;done))))|((with_reducible refine Ev.ite_neg ?_ ?_);(first|assumption|(focus omega)|(focus (simp;done)))))
              have j4 : ∀ R3 : Bool, (((U.getD j []).length = U.length → (leB U i j = true → i ≠ j → leB U j i = false) → Ev (fun k => impl_OrderOk.l1 k U U.length i U U.length i (U.getD i []) U.length (wrap64 ((j : Int) + 1))) R3)) →
                  Ev (fun k=>impl_OrderOk.j4 k U U.length i j (at2 U i j) U U.length i (U.getD i []) U.length j false) (if((U.getD j []).length==U.length && !(leB U i j && (!(i==j) && leB U j i)))=true then R3 else false):=by
                intro R3 hR3
                refine Ev.succ ?_
                simp only [impl_OrderOk.j4,rdL_nat,rd_nat,rd_row]
                repeat(first|((with_reducible refine Ev.ite_pos ?_ ?_);(first|assumption|(focus omega)|(focus (simp;done))))|((with_reducible refine Ev.ite_neg ?_ ?_);(first|assumption|(focus omega)|(focus (simp;done)))))
                by_cases l1:(U.getD j []).length=U.length
                · repeat (first | ((with_reducible refine Ev.ite_pos ?_ ?_); (first | assumption | (focus omega) | (focus (simp; done)))) | ((with_reducible refine Ev.ite_neg ?_ ?_); (first | assumption | (focus omega) | (focus (simp; done)))))
                  rw [l1]
                  by_cases x1:at2 U i j=1
                  · have y1 : leB U i j = true := by simp [leB, x1]
                    repeat(first|((with_reducible refine Ev.ite_pos ?_ ?_);(first|assumption|(focus omega)|(focus (simp;done))))|((with_reducible refine Ev.ite_neg ?_ ?_);(first|assumption|(focus omega)|(focus (simp;done)))))
                    by_cases x2:i=j
                    · repeat (first | ((with_reducible refine Ev.ite_pos ?_ ?_); (first | assumption | (focus omega) | (focus (simp; done)))) | ((with_reducible refine Ev.ite_neg ?_ ?_); (first | assumption | (focus omega) | (focus (simp; done)))))
                      exact Ev.eq (hR3 l1 (fun _ h=>absurd x2 h)) (by simp [x2])
                    · repeat (first | ((with_reducible refine Ev.ite_pos ?_ ?_); (first | assumption | (focus omega) | (focus (simp; done)))) | ((with_reducible refine Ev.ite_neg ?_ ?_); (first | assumption | (focus omega) | (focus (simp; done)))))
                      by_cases x3:at2 U j i=1
                      · have y3 : leB U j i = true := by simp [leB, x3]
                        repeat(first|((with_reducible refine Ev.ite_pos ?_ ?_);(first|assumption|(focus omega)|(focus (simp;done))))|((with_reducible refine Ev.ite_neg ?_ ?_);(first|assumption|(focus omega)|(focus (simp;done)))))
                        exact Ev.eq (Ev.now _) (by simp [x2,y1,y3])
                      · have y3 : leB U j i = false := by simp [leB, x3]
                        repeat(first|((with_reducible refine Ev.ite_pos ?_ ?_);(first|assumption|(focus omega)|(focus (simp;done))))|((with_reducible refine Ev.ite_neg ?_ ?_);(first|assumption|(focus omega)|(focus (simp;done)))))
                        exact Ev.eq (hR3 l1 (fun _ _=>y3)) (by simp [y3])
                  · have y1 : leB U i j = false := by simp [leB, x1]
                    repeat(first|((with_reducible refine Ev.ite_pos ?_ ?_);(first|assumption|(focus omega)|(focus (simp;done))))|((with_reducible refine Ev.ite_neg ?_ ?_);(first|assumption|(focus omega)|(focus (simp;done)))))
                    exact Ev.eq (hR3 l1 (fun h=>by rw [y1] at h;exact absurd h (by simp))) (by simp [y1])
                · repeat (first | ((with_reducible refine Ev.ite_pos ?_ ?_); (first | assumption | (focus omega) | (focus (simp; done)))) | ((with_reducible refine Ev.ite_neg ?_ ?_); (first | assumption | (focus omega) | (focus (simp; done)))))
                  exact Ev.eq (Ev.now _) (by simp [-List.getD_eq_getElem?_getD,l1])
              have hgo : at2 U i j = 0 ∨ at2 U i j = 1 → Ev (fun k => impl_OrderOk.j4 k U U.length i j (at2 U i j) U U.length i (U.getD i []) U.length j false) (if ((at2 U i j == 0 || at2 U i j == 1) && ((U.getD j []).length == U.length && !(leB U i j && (!(i == j) && leB U j i)))) = true then R2 else false) := by
                intro hb
                have hb1:(at2 U i j==0||at2 U i j==1)=true:=by rcases hb with h|h <;> simp [h]
                rw [hb1,Bool.true_and]
                refine j4 R2 fun l1 h=>hR2 ?_
                rw [hb1,Bool.true_and]
                simp only [l1,BEq.rfl,Bool.true_and,Bool.not_eq_true']
                cases y1:leB U i j
                · rfl
                · by_cases x2 : i = j
                  · simp [x2]
                  · simp [h y1 x2]
              by_cases x0:at2 U i j=0
              · repeat (first | ((with_reducible refine Ev.ite_pos ?_ ?_); (first | assumption | (focus omega) | (focus (simp; done)))) | ((with_reducible refine Ev.ite_neg ?_ ?_); (first | assumption | (focus omega) | (focus (simp; done)))))
                exact hgo (.inl x0)
              · repeat (first | ((with_reducible refine Ev.ite_pos ?_ ?_); (first | assumption | (focus omega) | (focus (simp; done)))) | ((with_reducible refine Ev.ite_neg ?_ ?_); (first | assumption | (focus omega) | (focus (simp; done)))))
                by_cases x1:at2 U i j=1
                · rw [show (at2 U i j != 1) = false by simp [x1]]
                  exact hgo (.inr x1)
                · rw [show (at2 U i j != 1) = true by simp [x1]]
                  refine Ev.succ ?_
                  simp only [impl_OrderOk.j4]
                  repeat(first|((with_reducible refine Ev.ite_pos ?_ ?_);(first|assumption|(focus omega)|(focus (simp;done))))|((with_reducible refine Ev.ite_neg ?_ ?_);(first|assumption|(focus omega)|(focus (simp;done)))))
                  exact Ev.eq (Ev.now _) (by simp [x0,x1])
          · have f2 : leB U i i = false := by simp [leB, e2]
            rw [show (at2 U i i !=1)=true by simp [e2]]
            refine Ev.succ ?_
            simp only [impl_OrderOk.j2]
            repeat(first|((with_reducible refine Ev.ite_pos ?_ ?_);(first|assumption|(focus omega)|(focus (simp;done))))|((with_reducible refine Ev.ite_neg ?_ ?_);(first|assumption|(focus omega)|(focus (simp;done)))))
            exact Ev.eq (Ev.now _) (by unfold rowOk;simp [f2])
        · repeat (first | ((with_reducible refine Ev.ite_pos ?_ ?_); (first | assumption | (focus omega) | (focus (simp; done)))) | ((with_reducible refine Ev.ite_neg ?_ ?_); (first | assumption | (focus omega) | (focus (simp; done)))))
          refine Ev.succ ?_
          simp only [impl_OrderOk.j2]
          repeat(first|((with_reducible refine Ev.ite_pos ?_ ?_);(first|assumption|(focus omega)|(focus (simp;done))))|((with_reducible refine Ev.ite_neg ?_ ?_);(first|assumption|(focus omega)|(focus (simp;done)))))
          exact Ev.eq (Ev.now _) (by unfold rowOk;simp [-List.getD_eq_getElem?_getD,e1])
    · simp only [h1, h2, decide_true, decide_false, Bool.true_and, Bool.false_and]
      unfold impl_OrderOk.f
      repeat(first|((with_reducible refine Ev.ite_pos ?_ ?_);(first|assumption|(focus omega)|(focus (simp;done))))|((with_reducible refine Ev.ite_neg ?_ ?_);(first|assumption|(focus omega)|(focus (simp;done)))))
      rw [show decide ((U.length:Int)>12)=true from decide_eq_true (by omega)]
      refine Ev.succ ?_
      simp only [impl_OrderOk.j0]
      repeat(first|((with_reducible refine Ev.ite_pos ?_ ?_);(first|assumption|(focus omega)|(focus (simp;done))))|((with_reducible refine Ev.ite_neg ?_ ?_);(first|assumption|(focus omega)|(focus (simp;done)))))
      exact Ev.now _
  · simp only [h1, decide_false, Bool.false_and]
    unfold impl_OrderOk.f
    repeat(first|((with_reducible refine Ev.ite_pos ?_ ?_);(first|assumption|(focus omega)|(focus (simp;done))))|((with_reducible refine Ev.ite_neg ?_ ?_);(first|assumption|(focus omega)|(focus (simp;done)))))
    refine Ev.succ ?_
    simp only [impl_OrderOk.j0]
    repeat(first|((with_reducible refine Ev.ite_pos ?_ ?_);(first|assumption|(focus omega)|(focus (simp;done))))|((with_reducible refine Ev.ite_neg ?_ ?_);(first|assumption|(focus omega)|(focus (simp;done)))))
    exact Ev.now _
theorem turnL_len (U : List (List Int)) : (turnL U).length = U.length := by simp [turnL]
theorem turnL_at (U : List (List Int)) {a b : Nat} (ha : a < U.length) (hb : b < U.length) : at2 (turnL U) a b = at2 U b a := by simp [at2, turnL, ha, hb]
theorem turnL_le (U : List (List Int)) {a b : Nat} (ha : a < U.length) (hb : b < U.length) : leB (turnL U) a b = leB U b a := by unfold leB; rw [turnL_at U ha hb]
theorem _root_.Oml.Order.turn {U : List (List Int)} (O : Order U) : Order (turnL U) where
  pos:=by rw [turnL_len];exact O.pos
  small:=by rw [turnL_len];exact O.small
  row a ha:=by rw [turnL_len] at*;simp [turnL,ha]
  bit a b ha hb:=by rw [turnL_len] at*;rw [turnL_at U ha hb];exact O.bit b a hb ha
  refl a ha:=by rw [turnL_len] at*;rw [turnL_le U ha ha];exact O.refl a ha
  anti a b ha hb h k:=by rw [turnL_len] at*;rw [turnL_le U ha hb] at h;rw [turnL_le U hb ha] at k;exact O.anti a b ha hb k h
  trans a b c ha hb hc h k:=by rw [turnL_len] at*;rw [turnL_le U ha hb] at h;rw [turnL_le U hb hc] at k;rw [turnL_le U ha hc];exact O.trans c b a hc hb ha k h
theorem allN_congr {n : Nat} {p q : Nat → Bool} (h : ∀ i, i < n → p i = q i) : allN n p = allN n q := by
  rw [Bool.eq_iff_iff, allN_iff, allN_iff]
  exact ⟨fun k i hi => h i hi ▸ k i hi, fun k i hi => (h i hi).symm ▸ k i hi⟩
theorem findN_congr {n : Nat} {p q : Nat → Bool} (h : ∀ i, i < n → p i = q i) : findN n p = findN n q := by
  cases e:findN n p with
  |some i=>exact(findN_of (findN_some e).1 (by rw [← h i (findN_some e).1];exact(findN_some e).2) fun j hj=>by rw [← h j (by have:=(findN_some e).1;omega)];exact findN_first e j hj).symm
  |none=>exact(findN_none.2 fun i hi=>by rw [← h i hi];exact findN_none.1 e i hi).symm
theorem meet_turn (U : List (List Int)) {a b : Nat} (ha : a < U.length) (hb : b < U.length) : mI (turnL U) a b = jI U a b := by
  unfold mI jI meetO joinO
  rw [turnL_len]
  congr 1
  refine findN_congr fun c hc=>?_
  unfold meetP joinP
  rw [turnL_le U hc ha,turnL_le U hc hb,turnL_len]
  congr 2
  refine allN_congr fun d hd=>?_
  rw [turnL_le U hd ha,turnL_le U hd hb,turnL_le U hd hc]
theorem impl_meet.ev_turn {U : List (List Int)} (O : Order U) {a b : Nat} (ha : a < U.length) (hb : b < U.length) : Ev (fun k => impl_meet.f k (turnL U) a b) (jI U a b) := by
  rw [← meet_turn U ha hb]
  exact impl_meet.ev O.turn (by rw [turnL_len]; exact ha) (by rw [turnL_len]; exact hb)
theorem getD_set {α : Type} (l : List α) (i j : Nat) (x d : α) (hi : i < l.length) : (l.set i x).getD j d = if j = i then x else l.getD j d := by
  by_cases e : j = i
  · subst e; simp [hi]
  · simp [List.getElem?_set, e, show ¬ (i = j) by omega]
theorem impl_turned.ev {U : List (List Int)} (O : Order U) : Ev (fun k => impl_turned.f k U) (turnL U) := by
  have hs:=O.small
  unfold impl_turned.f
  repeat(first|((with_reducible refine Ev.ite_pos ?_ ?_);(first|assumption|(focus omega)|(focus (simp;done))))|((with_reducible refine Ev.ite_neg ?_ ?_);(first|assumption|(focus omega)|(focus (simp;done)))))
  rw [Int.toNat_natCast]
  repeat(first|((with_reducible refine Ev.ite_pos ?_ ?_);(first|assumption|(focus omega)|(focus (simp;done))))|((with_reducible refine Ev.ite_neg ?_ ?_);(first|assumption|(focus omega)|(focus (simp;done)))))
  refine Ev.loop (g:=fun k s i=>impl_turned.l0 k U s U.length i) U.length (fun i s=>s.length=U.length∧ ∀a,a<i→s.getD a []=(List.range U.length).map fun b=>at2 U b a) (by omega) (fun s h=>?_) (fun i s hi h=>?_) _ ⟨by simp,fun a h=>absurd h (Nat.not_lt_zero _)⟩
  · refine Ev.succ ?_
    simp only [impl_turned.l0]
    repeat(first|((with_reducible refine Ev.ite_pos ?_ ?_);(first|assumption|(focus omega)|(focus (simp;done))))|((with_reducible refine Ev.ite_neg ?_ ?_);(first|assumption|(focus omega)|(focus (simp;done)))))
    refine Ev.eq (Ev.now s) (List.ext_getElem (by rw [h.1,turnL_len]) fun a h1 h2=>?_)
    have:=h.2 a (by omega)
    simpa [turnL,h1] using this
  · obtain ⟨h1, h2⟩ := h
    refine⟨s.set i ((List.range U.length).map fun b=>at2 U b i),⟨by simp [h1],fun a ha=>?_⟩,fun K=>Ev.succ ?_⟩
    · rw [getD_set _ _ _ _ _ (by omega)]
      by_cases e:a=i
      · rw [if_pos e,e]
      · rw [if_neg e];exact h2 a (by omega)
    · simp only [impl_turned.l0, Int.toNat_natCast]
      repeat(first|((with_reducible refine Ev.ite_pos ?_ ?_);(first|assumption|(focus omega)|(focus (simp;done))))|((with_reducible refine Ev.ite_neg ?_ ?_);(first|assumption|(focus omega)|(focus (simp;done)))))
      refine Ev.loop (g:=fun k s j=>impl_turned.l1 k U s i U.length i U.length j) U.length (fun j t=>t.length=U.length∧(t.getD i []).length=U.length∧t.set i []=s.set i []∧ ∀b,b<j→at1 (t.getD i []) b=at2 U b i) (by omega) (fun t h=>?_) (fun j t hj h=>?_) _ ⟨by simp [h1],by rw [getD_set _ _ _ _ _ (by omega)];simp,by simp,fun b h=>absurd h (Nat.not_lt_zero _)⟩
      · refine Ev.succ ?_
        simp only [impl_turned.l1]
        repeat(first|((with_reducible refine Ev.ite_pos ?_ ?_);(first|assumption|(focus omega)|(focus (simp;done))))|((with_reducible refine Ev.ite_neg ?_ ?_);(first|assumption|(focus omega)|(focus (simp;done)))))
        have e : t = s.set i ((List.range U.length).map fun b => at2 U b i) := by
          obtain⟨t1,t2,t3,t4⟩:=h
          have er : t.getD i [] = (List.range U.length).map fun b => at2 U b i := by
            refine List.ext_getElem (by rw [t2];simp) fun b k1 k2=>?_
            have:=t4 b (by omega)
            simp only [at1] at this
            rw [List.getD_eq_getElem?_getD,List.getElem?_eq_getElem k1] at this
            simpa using this
          refine List.ext_getElem (by simp [t1,h1]) fun a k1 k2=>?_
          by_cases ea:a=i
          · subst ea
            have:t.getD a []=t[a]:=by simp [k1]
            rw [← this,er];simp
          · have := congrArg (fun l => l.getD a []) t3
            rw [getD_set _ _ _ _ _ (by omega),getD_set _ _ _ _ _ (by omega),if_neg ea,if_neg ea] at this
            have k3:a<s.length:=by omega
            simpa [k1,k3,List.getElem_set,show¬(i=a) by omega] using this
        rw [e]
        exact K
      · obtain ⟨t1, t2, t3, t4⟩ := h
        have hrow:=O.row j hj
        refine⟨t.set i ((t.getD i []).set j (at2 U j i)),⟨by simp [t1],?_,?_,fun b hb=>?_⟩,fun K=>Ev.succ ?_⟩
        · rw [getD_set _ _ _ _ _ (by omega),if_pos rfl];simpa using t2
        · rw [← t3];simp
        · rw [getD_set _ _ _ _ _ (by omega), if_pos rfl]
          unfold at1
          rw [getD_set _ _ _ _ _ (by omega)]
          by_cases eb:b=j
          · rw [if_pos eb,eb]
          · rw [if_neg eb];exact t4 b (by omega)
        · simp only [impl_turned.l1, rdL_nat, rd_nat, rd_row, hrow, t1, t2, Int.toNat_natCast]
          repeat(first|((with_reducible refine Ev.ite_pos ?_ ?_);(first|assumption|(focus omega)|(focus (simp;done))))|((with_reducible refine Ev.ite_neg ?_ ?_);(first|assumption|(focus omega)|(focus (simp;done)))))
          exact K
theorem optI_neg (o : Option Nat) : (optI o < 0) ↔ o.isSome = false := by cases o <;> simp [optI] <;> omega
theorem impl_LatticeOk.ev (U : List (List Int)) : Ev (fun k => impl_LatticeOk.f k U) (latticeB U) := by
  unfold impl_LatticeOk.f latticeB
  refine Ev.bind (impl_OrderOk.ev U) ?_
  cases ho:orderB U with
  | false => repeat (first | ((with_reducible refine Ev.ite_pos ?_ ?_); (first | assumption | (focus omega) | (focus (simp; done)))) | ((with_reducible refine Ev.ite_neg ?_ ?_); (first | assumption | (focus omega) | (focus (simp; done)))))
             exact Ev.now _
  | true =>
    have O:=orderB_iff.1 ho
    have hs:=O.small
    repeat(first|((with_reducible refine Ev.ite_pos ?_ ?_);(first|assumption|(focus omega)|(focus (simp;done))))|((with_reducible refine Ev.ite_neg ?_ ?_);(first|assumption|(focus omega)|(focus (simp;done)))))
    refine Ev.bind (impl_turned.ev O) ?_
    refine Ev.eq (Ev.all (n:=U.length) (g:=fun k i=>impl_LatticeOk.l0 k U (turnL U) U.length i) (fun a=>allN U.length fun b=>(meetO U a b).isSome && (joinO U a b).isSome) (go:=true) (stop:=false) (by omega) (fun _=>?_) fun a ha _ R hR=>?_) (by rw [Bool.true_and];cases allN U.length _ <;> rfl)
    · refine Ev.succ ?_
      simp only [impl_LatticeOk.l0]
      repeat(first|((with_reducible refine Ev.ite_pos ?_ ?_);(first|assumption|(focus omega)|(focus (simp;done))))|((with_reducible refine Ev.ite_neg ?_ ?_);(first|assumption|(focus omega)|(focus (simp;done)))))
      exact Ev.now _
    · refine Ev.succ ?_
      simp only [impl_LatticeOk.l0]
      repeat(first|((with_reducible refine Ev.ite_pos ?_ ?_);(first|assumption|(focus omega)|(focus (simp;done))))|((with_reducible refine Ev.ite_neg ?_ ?_);(first|assumption|(focus omega)|(focus (simp;done)))))
      refine Ev.all (n:=U.length) (g:=fun k i=>impl_LatticeOk.l1 k U (turnL U) a U.length a U.length i) _ (by omega) (fun h=>?_) fun b hb _ R2 hR2=>?_
      · refine Ev.succ ?_
        simp only [impl_LatticeOk.l1]
        repeat(first|((with_reducible refine Ev.ite_pos ?_ ?_);(first|assumption|(focus omega)|(focus (simp;done))))|((with_reducible refine Ev.ite_neg ?_ ?_);(first|assumption|(focus omega)|(focus (simp;done)))))
        exact hR (allN_iff.2 h)
      · refine Ev.succ ?_
        simp only [impl_LatticeOk.l1]
        repeat(first|((with_reducible refine Ev.ite_pos ?_ ?_);(first|assumption|(focus omega)|(focus (simp;done))))|((with_reducible refine Ev.ite_neg ?_ ?_);(first|assumption|(focus omega)|(focus (simp;done)))))
        refine Ev.bind (impl_meet.ev O ha hb) ?_
        unfold mI
        cases em:meetO U a b with
        | none => refine Ev.ite_pos (by simp [optI]) ?_
                  exact Ev.eq (Ev.now _) (by simp)
        | some m =>
          refine Ev.ite_neg (by have:=optI_neg (some 0);simp [optI]) ?_
          refine Ev.bind (impl_meet.ev_turn O ha hb) ?_
          unfold jI
          cases ej:joinO U a b with
          | none => refine Ev.ite_pos (by simp [optI]) ?_
                    exact Ev.eq (Ev.now _) (by simp)
          | some j =>
            refine Ev.ite_neg (by have:=optI_neg (some 0);simp [optI]) ?_
            exact Ev.eq (hR2 (by simp [em,ej])) (by simp)
theorem impl_LeastOf.ev (U : List (List Int)) : Ev (fun k => impl_LeastOf.f k U) (if orderB U = true then (optI (leastO U), (leastO U).isSome) else (-1, false)) := by
  unfold impl_LeastOf.f
  refine Ev.bind (impl_OrderOk.ev U) ?_
  cases ho:orderB U with
  | false => repeat (first | ((with_reducible refine Ev.ite_pos ?_ ?_); (first | assumption | (focus omega) | (focus (simp; done)))) | ((with_reducible refine Ev.ite_neg ?_ ?_); (first | assumption | (focus omega) | (focus (simp; done)))))
             exact Ev.now _
  | true =>
    have O:=orderB_iff.1 ho
    have hs:=O.small
    repeat(first|((with_reducible refine Ev.ite_pos ?_ ?_);(first|assumption|(focus omega)|(focus (simp;done))))|((with_reducible refine Ev.ite_neg ?_ ?_);(first|assumption|(focus omega)|(focus (simp;done)))))
    refine Ev.eq (Ev.find (n:=U.length) (g:=fun k i=>impl_LeastOf.l0 k U U.length i) (fun a=>allN U.length fun b=>leB U a b) (none':=(-1,false)) (some':=fun i=>((i:Int),true)) (by omega) (fun _=>?_) fun a ha _ R hR=>?_) (by unfold leastO;cases findN U.length _ <;> rfl)
    · refine Ev.succ ?_
      simp only [impl_LeastOf.l0]
      repeat(first|((with_reducible refine Ev.ite_pos ?_ ?_);(first|assumption|(focus omega)|(focus (simp;done))))|((with_reducible refine Ev.ite_neg ?_ ?_);(first|assumption|(focus omega)|(focus (simp;done)))))
      exact Ev.now _
    · refine Ev.succ ?_
      simp only [impl_LeastOf.l0,rdL_nat,O.row a ha]
      repeat(first|((with_reducible refine Ev.ite_pos ?_ ?_);(first|assumption|(focus omega)|(focus (simp;done))))|((with_reducible refine Ev.ite_neg ?_ ?_);(first|assumption|(focus omega)|(focus (simp;done)))))
      have key : ∀ d i, i + d = U.length → ∀ fl : Bool, (fl && allFrom U.length (fun b => leB U a b) i) = allN U.length (fun b => leB U a b) → Ev (fun k => impl_LeastOf.l1 k a fl U U.length a (U.getD a []) U.length i) (if allN U.length (fun b => leB U a b) = true then ((a : Int), true) else R) := by
        intro d
        induction d with
        | zero =>
          intro i hi fl hfl
          refine Ev.succ ?_
          simp only [impl_LeastOf.l1]
          rw [allFrom_ge (by omega),Bool.and_true] at hfl
          rw [hfl]
          repeat(first|((with_reducible refine Ev.ite_pos ?_ ?_);(first|assumption|(focus omega)|(focus (simp;done))))|((with_reducible refine Ev.ite_neg ?_ ?_);(first|assumption|(focus omega)|(focus (simp;done)))))
          cases ha':allN U.length (fun b=>leB U a b) with
          | true => repeat (first | ((with_reducible refine Ev.ite_pos ?_ ?_); (first | assumption | (focus omega) | (focus (simp; done)))) | ((with_reducible refine Ev.ite_neg ?_ ?_); (first | assumption | (focus omega) | (focus (simp; done)))))
                    exact Ev.now _
          | false => repeat (first | ((with_reducible refine Ev.ite_pos ?_ ?_); (first | assumption | (focus omega) | (focus (simp; done)))) | ((with_reducible refine Ev.ite_neg ?_ ?_); (first | assumption | (focus omega) | (focus (simp; done)))))
                     exact hR ha'
        | succ d ih =>
          intro i hi fl hfl
          rw [allFrom_lt (by omega)] at hfl
          refine Ev.succ ?_
          have rl:=O.row a ha
          simp only [impl_LeastOf.l1,rd_nat,rd_row,wrap_nat (show i<4611686018427387904 by omega)]
          repeat(first|((with_reducible refine Ev.ite_pos ?_ ?_);(first|assumption|(focus omega)|(focus (simp;done))))|((with_reducible refine Ev.ite_neg ?_ ?_);(first|assumption|(focus omega)|(focus (simp;done)))))
          cases fl with
          | true => repeat (first | ((with_reducible refine Ev.ite_pos ?_ ?_); (first | assumption | (focus omega) | (focus (simp; done)))) | ((with_reducible refine Ev.ite_neg ?_ ?_); (first | assumption | (focus omega) | (focus (simp; done)))))
                    exact ih (i+1) (by omega) _ hfl
          | false => repeat (first | ((with_reducible refine Ev.ite_pos ?_ ?_); (first | assumption | (focus omega) | (focus (simp; done)))) | ((with_reducible refine Ev.ite_neg ?_ ?_); (first | assumption | (focus omega) | (focus (simp; done)))))
                     exact ih (i+1) (by omega) _ (by rw [← hfl];simp)
      exact key U.length 0 (by omega) true (by rw [allFrom_zero,Bool.true_and])
theorem told_facts (U : List (List Int)) : ∃ k, ToldFacts k U := by
  cases hl:latticeB U with
  | false =>
    obtain⟨k,hk⟩:=(impl_LatticeOk.ev U).rounds
    exact⟨k,by rw [hk,hl],fun h=>by rw [hl] at h;exact absurd h (by simp),fun h=>by rw [hl] at h;exact absurd h (by simp),fun h=>by rw [hl] at h;exact absurd h (by simp),fun h=>by rw [hl] at h;exact absurd h (by simp)⟩
  | true =>
    have O:=latticeB_order hl
    obtain⟨k1,h1⟩:=impl_LatticeOk.ev U
    obtain⟨k2,h2⟩:=impl_LeastOf.ev U
    have hm: ∃K,∀a b:Nat,a<U.length→b<U.length→ ∀k,K≤k→impl_meet.f k U a b=some (mI U a b):=Ev.all2 U.length fun a b ha hb=>impl_meet.ev O ha hb
    have hj: ∃K,∀a b:Nat,a<U.length→b<U.length→ ∀k,K≤k→impl_meet.f k (turnL U) a b=some (jI U a b):=Ev.all2 U.length fun a b ha hb=>impl_meet.ev_turn O ha hb
    obtain⟨k3,h3⟩:=hm
    obtain⟨k4,h4⟩:=hj
    obtain⟨k5,h5⟩:=impl_turned.ev O
    refine⟨k1+k2+k3+k4+k5,?_,fun _=>h5 _ (by omega),fun _ a b ha hb=>h3 a b ha hb _ (by omega),fun _ a b ha hb=>h4 a b ha hb _ (by omega),fun _=>?_⟩
    · exact h1 _ (by omega)
    · have := h2 (k1 + k2 + k3 + k4 + k5) (by omega)
      rw [if_pos (orderB_iff.2 O)] at this
      exact this
end Go.Proofs.Ytcbjpdaogicibaa.Print
end
