/- Part 2 of what this is proved by: The law of BlocksWith. -/
import Derived.Test.YtcbjpdaogicibaaKBlocksWithL1
import Derived.Below
import Derived.Deep.Draws
import Derived.Deep.AppendLies
import Derived.Maps.AppendAt
import Derived.OwnWalk
import Derived.Laws.BytesArg
import Derived.Laws.MakeOwn
import Derived.Laws.OwnMore
import Derived.Deep.OwnRows
import Derived.Tactics
import Derived.Lib.ConvBytes
import Derived.Laws.Slices
import Derived.WalkKit
import Derived.KernelRfl
import Derived.RowKit3
import Derived.Deep.LoopGhost
import Derived.Deep.QuietTactic
import Derived.BigQuiet
import Derived.WideLaws
import Derived.Deep.DeepCutAuto
import Derived.Deep.CutBlock
import Derived.Deep.RegionHeld3
import Derived.Laws.Rows
import Derived.Lib.AppendStr
import Derived.ArgAppend
import Derived.Laws.IdiomCopy
import Derived.RowKit
import Derived.Test.YtcbjpdaogicibaaProg
import Derived.OrdersHeld
import Derived.Laws.BitsLemmas
import Derived.Laws.Bits64b
import Derived.ProofKit
import Derived.OpenShut
set_option linter.all false
section
namespace Go.Proofs.Ytcbjpdaogicibaa.Print
open Go.RowKit Go.Proofs.YtcbjpdaogicibaaW.PrintWords Go.Proofs.YtcbjpdaogicibaaW.PrintLast Go.Proofs.YtcbjpdaogicibaaW.PrintMore
open Oml
theorem spec_l5With.ev {U : List (List Int)} {N : List Int} (L : Logic U N) {a b : Int} (ia : In U a) (ib : In U b) : Ev (fun k => spec_l5With.f k U N a b) (withB U N a b) := by
  unfold spec_l5With.f
  have hl:=L.len
  have b0:=ib.1
  have b1:=ib.2
  refine Ev.bind (meet_in L ia ib) ?_
  repeat(first|((with_reducible refine Ev.ite_pos ?_ ?_);(first|assumption|(focus omega)|(focus (simp;done))))|((with_reducible refine Ev.ite_neg ?_ ?_);(first|assumption|(focus omega)|(focus (simp;done)))))
  rw [rd_in L ib]
  refine Ev.bind (meet_in L ia (L.in_not ib)) (Ev.bind (join_in L (L.in_and ia ib) (L.in_and ia (L.in_not ib))) ?_)
  exact Ev.now _
theorem spec_l6Agree.ev {U : List (List Int)} {N : List Int} (L : Logic U N) {a b : Int} (ia : In U a) (ib : In U b) : Ev (fun k => spec_l6Agree.f k U N a b) (bothB U N a b) := by
  unfold spec_l6Agree.f bothB
  refine Ev.bind (spec_l5With.ev L ia ib) ?_
  cases h:withB U N a b with
  | true =>
    repeat(first|((with_reducible refine Ev.ite_pos ?_ ?_);(first|assumption|(focus omega)|(focus (simp;done))))|((with_reducible refine Ev.ite_neg ?_ ?_);(first|assumption|(focus omega)|(focus (simp;done)))))
    refine Ev.bind (spec_l5With.ev L ib ia) ?_
    exact Ev.now _
  | false =>
    repeat(first|((with_reducible refine Ev.ite_pos ?_ ?_);(first|assumption|(focus omega)|(focus (simp;done))))|((with_reducible refine Ev.ite_neg ?_ ?_);(first|assumption|(focus omega)|(focus (simp;done)))))
    exact Ev.now _
def agW (U : List (List Int)) (N : List Int) (i j : Nat) : Nat := setB U.length fun b => decide (b < j) && bothB U N i b
theorem agW_zero (U : List (List Int)) (N : List Int) (i : Nat) : agW U N i 0 = 0 := by unfold agW; rw [setB_congr (q := fun _ => false) fun b _ => by simp, setB_none]
theorem agW_all (U : List (List Int)) (N : List Int) (i : Nat) : agW U N i U.length = agA U N i := by unfold agW agA; exact setB_congr fun b hb => by simp [hb]
theorem agW_succ (U : List (List Int)) (N : List Int) (i : Nat) {j : Nat} (hj : j < U.length) : agW U N i (j + 1) = if bothB U N i j = true then agW U N i j ||| 2 ^ j else agW U N i j := by
  unfold agW
  cases h:bothB U N i j with
  | true =>
    rw [if_pos rfl,setB_one hj,setB_or]
    refine setB_congr fun b hb=>?_
    by_cases e:b=j
    · subst e;simp [h]
    · rw [show (b == j) = false by simpa using e, Bool.or_false]
      congr 1
      rw [decide_eq_decide];omega
  | false =>
    rw [if_neg (by simp)]
    refine setB_congr fun b hb=>?_
    by_cases e:b=j
    · subst e;simp [h]
    · congr 1
      rw [decide_eq_decide];omega
theorem agF_take (U : List (List Int)) (N : List Int) (i : Nat) : ((List.range (i + 1)).map fun (a : Nat) => ((agA U N a : Nat) : Int)) = ((List.range i).map fun (a : Nat) => ((agA U N a : Nat) : Int)) ++ [((agA U N i : Nat) : Int)] := by simp [List.range_succ]
theorem spec_BlocksOf.ev (U : List (List Int)) (N : List Int) : Ev (fun k => spec_BlocksOf.f k U N) (if logicB U N = true then blkL U N else []) := by
  unfold spec_BlocksOf.f
  refine Ev.pbind rfl (Ev.bind (spec_LogicOk.ev U N) ?_)
  cases hl:logicB U N with
  | false =>
    repeat(first|((with_reducible refine Ev.ite_pos ?_ ?_);(first|assumption|(focus omega)|(focus (simp;done))))|((with_reducible refine Ev.ite_neg ?_ ?_);(first|assumption|(focus omega)|(focus (simp;done)))))
    exact Ev.now _
  | true =>
    have L:=logicB_iff.1 hl
    have hln:=L.len
    have hs:=L.small
    have hp:=L.pos
    rw [if_pos rfl]
    repeat(first|((with_reducible refine Ev.ite_pos ?_ ?_);(first|assumption|(focus omega)|(focus (simp;done))))|((with_reducible refine Ev.ite_neg ?_ ?_);(first|assumption|(focus omega)|(focus (simp;done)))))
    rw [hln]
    have hM1:1≤2 ^ U.length:=Nat.one_le_two_pow
    have hM2:2 ^ U.length≤4096:=Nat.pow_le_pow_right (by omega) hs
    have key : ∀ d s, s + d = 2 ^ U.length → Ev (fun k => spec_BlocksOf.l2 k (filI s (blkP U N)) (U.length : Int) (agF U N) (s : Int)) (blkL U N) := by
      intro d
      induction d with
      | zero =>
        intro s hsd
        refine Ev.succ ?_
        simp only [spec_BlocksOf.l2,shl_nat (show U.length≤40 by omega)]
        repeat(first|((with_reducible refine Ev.ite_pos ?_ ?_);(first|assumption|(focus omega)|(focus (simp;done))))|((with_reducible refine Ev.ite_neg ?_ ?_);(first|assumption|(focus omega)|(focus (simp;done)))))
        rw [show s=2 ^ U.length by omega]
        exact Ev.now _
      | succ d ih =>
        intro s hsd
        have K:=ih (s+1) (by omega)
        refine Ev.succ ?_
        simp only [spec_BlocksOf.l2,shl_nat (show U.length≤40 by omega)]
        repeat(first|((with_reducible refine Ev.ite_pos ?_ ?_);(first|assumption|(focus omega)|(focus (simp;done))))|((with_reducible refine Ev.ite_neg ?_ ?_);(first|assumption|(focus omega)|(focus (simp;done)))))
        rw [com_start N hs s]
        refine Ev.loop (g:=fun k x i=>spec_BlocksOf.l3 k (filI s (blkP U N)) (U.length:Int) (agF U N) (s:Int) x i) U.length (fun i x=>x=((comN U N s i:Nat):Int)) (by omega) (fun x h=>?_) (fun i x hi h=>?_) _ rfl
        · subst h
          refine Ev.succ ?_
          simp only [spec_BlocksOf.l3,wrap_nat (show s<4611686018427387904 by omega)]
          repeat(first|((with_reducible refine Ev.ite_pos ?_ ?_);(first|assumption|(focus omega)|(focus (simp;done))))|((with_reducible refine Ev.ite_neg ?_ ?_);(first|assumption|(focus omega)|(focus (simp;done)))))
          rw [filI_succ] at K
          have hlen:(filI s (blkP U N)).length<17592186044416:=by have:=filI_length s (blkP U N);omega
          by_cases e:comN U N s U.length=s
          · have e' : ((comN U N s U.length : Nat) : Int) = (s : Int) := by rw [e]
            have hpos : 1 ≤ s := by
              rcases Nat.eq_zero_or_pos s with h0|h0
              · subst h0
                exfalso
                have h9:comN U N 0 U.length=2 ^ U.length - 1:=by rw [setB_all];unfold comN;exact setB_congr fun b _=>by rw [allN_iff];intro i _;simp
                have:2 ^ 1≤2 ^ U.length:=Nat.pow_le_pow_right (by omega) hp
                omega
              · exact h0
            rw [if_pos (by unfold blkP;rw [show comS U N s=s from e,decide_eq_true hpos];simp)] at K
            repeat(first|((with_reducible refine Ev.ite_pos ?_ ?_);(first|assumption|(focus omega)|(focus (simp;done))))|((with_reducible refine Ev.ite_neg ?_ ?_);(first|assumption|(focus omega)|(focus (simp;done)))))
            exact K
          · have e' : ¬ ((comN U N s U.length : Nat) : Int) = (s : Int) := by omega
            rw [if_neg (by unfold blkP;rw [show (comS U N s==s)=false from beq_eq_false_iff_ne.2 e];simp)] at K
            repeat(first|((with_reducible refine Ev.ite_pos ?_ ?_);(first|assumption|(focus omega)|(focus (simp;done))))|((with_reducible refine Ev.ite_neg ?_ ?_);(first|assumption|(focus omega)|(focus (simp;done)))))
            exact K
        · subst h
          refine⟨_,rfl,fun K2=>Ev.succ ?_⟩
          rw [comN_succ] at K2
          simp only [spec_BlocksOf.l3,smod_nat s (show i≤64 by omega),agF_length,rd_nat,agF_at U N i hi]
          repeat(first|((with_reducible refine Ev.ite_pos ?_ ?_);(first|assumption|(focus omega)|(focus (simp;done))))|((with_reducible refine Ev.ite_neg ?_ ?_);(first|assumption|(focus omega)|(focus (simp;done)))))
          cases hb:s.testBit i with
          | true =>
            rw [hb,if_pos rfl] at K2
            repeat(first|((with_reducible refine Ev.ite_pos ?_ ?_);(first|assumption|(focus omega)|(focus (simp;done))))|((with_reducible refine Ev.ite_neg ?_ ?_);(first|assumption|(focus omega)|(focus (simp;done)))))
            rw [band_nat (comN U N s i) (agA U N i) (by have:=comN_small N hs s i;omega) (by have:=agA_small N hs i;omega)]
            exact K2
          | false =>
            rw [hb,if_neg (by simp)] at K2
            repeat(first|((with_reducible refine Ev.ite_pos ?_ ?_);(first|assumption|(focus omega)|(focus (simp;done))))|((with_reducible refine Ev.ite_neg ?_ ?_);(first|assumption|(focus omega)|(focus (simp;done)))))
            exact K2
    refine Ev.loop (g:=fun k s i=>spec_BlocksOf.l0 k [] (U.length:Int) s i U N) U.length (fun i s=>s=(List.range i).map fun(a:Nat)=>((agA U N a:Nat):Int)) (by omega) (fun s h=>?_) (fun i s hi h=>?_) _ rfl
    · subst h
      refine Ev.succ ?_
      simp only [spec_BlocksOf.l0]
      repeat(first|((with_reducible refine Ev.ite_pos ?_ ?_);(first|assumption|(focus omega)|(focus (simp;done))))|((with_reducible refine Ev.ite_neg ?_ ?_);(first|assumption|(focus omega)|(focus (simp;done)))))
      have:=key (2 ^ U.length - 1) 1 (by omega)
      rw [filI_one] at this
      exact this
    · subst h
      refine⟨_,rfl,fun K=>Ev.succ ?_⟩
      simp only [spec_BlocksOf.l0]
      repeat(first|((with_reducible refine Ev.ite_pos ?_ ?_);(first|assumption|(focus omega)|(focus (simp;done))))|((with_reducible refine Ev.ite_neg ?_ ?_);(first|assumption|(focus omega)|(focus (simp;done)))))
      refine Ev.loop (g:=fun k x j=>spec_BlocksOf.l1 k [] (U.length:Int) ((List.range i).map fun(a:Nat)=>((agA U N a:Nat):Int)) (i:Int) x j U N) U.length (fun j x=>x=((agW U N i j:Nat):Int)) (by omega) (fun x h=>?_) (fun j x hj h=>?_) _ (by rw [agW_zero];rfl)
      · subst h
        refine Ev.succ ?_
        simp only [spec_BlocksOf.l1,List.length_map,List.length_range]
        repeat(first|((with_reducible refine Ev.ite_pos ?_ ?_);(first|assumption|(focus omega)|(focus (simp;done))))|((with_reducible refine Ev.ite_neg ?_ ?_);(first|assumption|(focus omega)|(focus (simp;done)))))
        rw [agW_all,← agF_take]
        exact K
      · subst h
        refine⟨_,rfl,fun K2=>Ev.succ ?_⟩
        rw [agW_succ U N i hj] at K2
        simp only [spec_BlocksOf.l1,shl_nat (show j≤40 by omega)]
        repeat(first|((with_reducible refine Ev.ite_pos ?_ ?_);(first|assumption|(focus omega)|(focus (simp;done))))|((with_reducible refine Ev.ite_neg ?_ ?_);(first|assumption|(focus omega)|(focus (simp;done)))))
        refine Ev.bind (spec_l6Agree.ev L (a:=(i:Int)) (b:=(j:Int)) ⟨by omega,by omega⟩ ⟨by omega,by omega⟩) ?_
        cases hb:bothB U N i j with
        | true =>
          rw [hb,if_pos rfl] at K2
          repeat(first|((with_reducible refine Ev.ite_pos ?_ ?_);(first|assumption|(focus omega)|(focus (simp;done))))|((with_reducible refine Ev.ite_neg ?_ ?_);(first|assumption|(focus omega)|(focus (simp;done)))))
          have h1:=two_pow_le (show j≤40 by omega)
          rw [bor_nat _ _ (by have:=setB_small (show U.length≤40 by omega) (fun b=>decide (b<j) && bothB U N i b);unfold agW;omega) (by omega)]
          exact K2
        | false =>
          rw [hb,if_neg (by simp)] at K2
          repeat(first|((with_reducible refine Ev.ite_pos ?_ ?_);(first|assumption|(focus omega)|(focus (simp;done))))|((with_reducible refine Ev.ite_neg ?_ ?_);(first|assumption|(focus omega)|(focus (simp;done)))))
          exact K2
theorem spec_NotOf.ev (U : List (List Int)) (N : List Int) (a : Int) : Ev (fun k => spec_NotOf.f k U N a) (if logicB U N = true then (if inR U.length a = true then notI N a else -1) else -1) := by
  unfold spec_NotOf.f
  refine Ev.bind (spec_l2Both.ev U N a a) ?_
  cases hl:logicB U N with
  | false => repeat (first | ((with_reducible refine Ev.ite_pos ?_ ?_); (first | assumption | (focus omega) | (focus (simp; done)))) | ((with_reducible refine Ev.ite_neg ?_ ?_); (first | assumption | (focus omega) | (focus (simp; done)))))
             exact Ev.now _
  | true =>
    have L:=logicB_iff.1 hl
    cases ha:inR U.length a with
    | false => repeat (first | ((with_reducible refine Ev.ite_pos ?_ ?_); (first | assumption | (focus omega) | (focus (simp; done)))) | ((with_reducible refine Ev.ite_neg ?_ ?_); (first | assumption | (focus omega) | (focus (simp; done)))))
               exact Ev.now _
    | true =>
      have ia:=inR_iff.1 ha
      have h0:=ia.1
      have h1:=ia.2
      have hl2:=L.len
      obtain⟨x,rfl⟩: ∃x:Nat,a=x:=⟨a.toNat,by omega⟩
      repeat(first|((with_reducible refine Ev.ite_pos ?_ ?_);(first|assumption|(focus omega)|(focus (simp;done))))|((with_reducible refine Ev.ite_neg ?_ ?_);(first|assumption|(focus omega)|(focus (simp;done)))))
      exact Ev.eq (Ev.now _) (by rw [rd_nat];rfl)
theorem spec_BlocksWith.ev (U : List (List Int)) (N : List Int) (a : Int) : Ev (fun k => spec_BlocksWith.f k U N a) (if logicB U N = true then (if [a].all (inR U.length) = true then (((blkN U N).countP fun s => s.testBit a.toNat : Nat) : Int) else -1) else -1) := by
  unfold spec_BlocksWith.f
  refine Ev.bind (spec_NotOf.ev U N a) ?_
  cases hl:logicB U N with
  | false =>
    repeat(first|((with_reducible refine Ev.ite_pos ?_ ?_);(first|assumption|(focus omega)|(focus (simp;done))))|((with_reducible refine Ev.ite_neg ?_ ?_);(first|assumption|(focus omega)|(focus (simp;done)))))
    exact Ev.now _
  | true =>
    have L:=logicB_iff.1 hl
    have hs:=L.small
    rw [if_pos rfl,if_pos rfl]
    cases ha:inR U.length a with
    | false =>
      rw [if_neg (by simp),if_neg (by simp [ha])]
      repeat(first|((with_reducible refine Ev.ite_pos ?_ ?_);(first|assumption|(focus omega)|(focus (simp;done))))|((with_reducible refine Ev.ite_neg ?_ ?_);(first|assumption|(focus omega)|(focus (simp;done)))))
      exact Ev.now _
    | true =>
      have Ia:In U a:=inR_iff.1 ha
      obtain⟨x,rfl⟩: ∃x:Nat,a=x:=⟨a.toNat,by have:=Ia.1;omega⟩
      have hx:=Ia.2
      have hn:=(L.in_not Ia).1
      rw [if_pos rfl,if_pos (by simp [ha])]
      repeat(first|((with_reducible refine Ev.ite_pos ?_ ?_);(first|assumption|(focus omega)|(focus (simp;done))))|((with_reducible refine Ev.ite_neg ?_ ?_);(first|assumption|(focus omega)|(focus (simp;done)))))
      refine Ev.bind (spec_BlocksOf.ev U N) ?_
      rw [hl,if_pos rfl]
      have hlen:=blkL_length U N
      have hlen2:=blkN_len N hs
      refine Ev.loop (g:=fun k s i=>spec_BlocksWith.l0 k (x:Int) s (blkL U N) i) (blkL U N).length (fun i s=>s=((blkC U N x i:Nat):Int)) (by omega) (fun s h=>?_) (fun i s hi h=>?_) _ (by simp [blkC])
      · subst h
        refine Ev.succ ?_
        simp only [spec_BlocksWith.l0]
        repeat(first|((with_reducible refine Ev.ite_pos ?_ ?_);(first|assumption|(focus omega)|(focus (simp;done))))|((with_reducible refine Ev.ite_neg ?_ ?_);(first|assumption|(focus omega)|(focus (simp;done)))))
        rw [show blkC U N x (blkL U N).length=(blkN U N).countP fun s=>s.testBit (x:Int).toNat by unfold blkC;rw [blkL_length,List.take_length,Int.toNat_natCast]]
        exact Ev.now _
      · subst h
        refine⟨_,rfl,fun K=>Ev.succ ?_⟩
        rw [blkC_succ U N x (by omega)] at K
        have hc:=blkC_le U N x i
        simp only [spec_BlocksWith.l0,rd_nat,blkL_at,smod_nat _ (show x≤64 by omega)]
        repeat(first|((with_reducible refine Ev.ite_pos ?_ ?_);(first|assumption|(focus omega)|(focus (simp;done))))|((with_reducible refine Ev.ite_neg ?_ ?_);(first|assumption|(focus omega)|(focus (simp;done)))))
        cases hb:((blkN U N).getD i 0).testBit x with
        | true =>
          rw [hb,if_pos rfl] at K
          rw [if_pos rfl,wrap_small (by omega) (by omega)]
          exact K
        | false =>
          rw [hb,if_neg (by simp)] at K
          rw [if_neg (by simp),wrap_small (by omega) (by omega),Int.add_zero]
          exact K
end Go.Proofs.Ytcbjpdaogicibaa.Print
end
section
namespace Go.Proofs.Ytcbjpdaogicibaa.Print
open Go.RowKit Go.Proofs.YtcbjpdaogicibaaW.PrintWords Go.Proofs.YtcbjpdaogicibaaW.PrintLast Go.Proofs.YtcbjpdaogicibaaW.PrintMore
open Oml
section
variable {U : List (List Int)} {N : List Int} (L : Logic U N)
theorem fin_of {a : Int} (ia : In U a) : ∃ x : Fin U.length, a = ((x.1 : Nat) : Int) := ⟨⟨a.toNat, by have := ia.1; have := ia.2; omega⟩, by have := ia.1; show a = ((a.toNat : Nat) : Int); omega⟩
theorem fin_of_nat {i : Nat} (h : i < U.length) : ∃ x : Fin U.length, i = x.1 := ⟨⟨i, h⟩, rfl⟩
theorem in_fin (x : Fin U.length) : In U ((x.1 : Nat) : Int) := ⟨by omega, by have := x.2; omega⟩
theorem fin_inj {x y : Fin U.length} : (((x.1 : Nat) : Int) = ((y.1 : Nat) : Int)) ↔ x = y := by
  constructor
  · intro h; exact Fin.ext (by omega)
  · intro h; rw [h]
theorem fin_beq (x y : Fin U.length) : (((x.1 : Nat) : Int) == ((y.1 : Nat) : Int)) = decide (x = y) := by
  rw [Bool.eq_iff_iff, beq_iff_eq, decide_eq_true_eq]; exact fin_inj
theorem leB_fin (x y : Fin U.length) : leB U x.1 y.1 = true ↔ L.ol.le x y := Iff.rfl
theorem allN_fin {n : Nat} {p : Nat → Bool} : allN n p = true ↔ ∀ x : Fin n, p x.1 = true := by
  rw [allN_iff]
  exact ⟨fun h x => h x.1 x.2, fun h i hi => h ⟨i, hi⟩⟩
end
end Go.Proofs.Ytcbjpdaogicibaa.Print
end
section
namespace Go.Proofs.Ytcbjpdaogicibaa.Print
open Go.RowKit Go.Proofs.YtcbjpdaogicibaaW.PrintWords Go.Proofs.YtcbjpdaogicibaaW.PrintLast Go.Proofs.YtcbjpdaogicibaaW.PrintMore
open Oml
def comR (n : Nat) (R : Nat → Nat → Bool) (s : Nat) : Nat := setB n fun b => allN n fun a => !(s.testBit a) || R a b
def Rel (n : Nat) (R : Nat → Nat → Bool) (s : Nat) : Prop := ∀ a b, a < n → b < n → s.testBit a = true → s.testBit b = true → R a b = true
theorem comR_bit (n : Nat) (R : Nat → Nat → Bool) (s b : Nat) (hb : b < n) : (comR n R s).testBit b = true ↔ ∀ a, a < n → s.testBit a = true → R a b = true := by
  unfold comR
  rw [setB_bit,decide_eq_true hb,Bool.true_and,allN_iff]
  constructor
  · intro h a ha hs
    have:=h a ha
    rw [hs] at this
    simpa using this
  · intro h a ha
    cases hs:s.testBit a with
    |false=>rfl
    |true=>rw [h a ha hs];rfl
theorem bit_lt {n s b : Nat} (hs : s < 2 ^ n) (h : s.testBit b = true) : b < n := by
  apply Classical.byContradiction
  intro hn
  have h2 : s < 2 ^ b := Nat.lt_of_lt_of_le hs (Nat.pow_le_pow_right (by omega) (by omega))
  rw [Nat.testBit_lt_two_pow h2] at h
  exact absurd h (by simp)
theorem block_ext {n : Nat} {R : Nat → Nat → Bool} (hr : ∀ a, a < n → R a a = true) (hsy : ∀ a b, a < n → b < n → R a b = true → R b a = true) :
    ∀d s,s<2 ^ n→2 ^ n≤s+d→Rel n R s→ ∃t,t<2 ^ n∧comR n R t=t∧ ∀a,s.testBit a=true→t.testBit a=true:=by
  intro d
  induction d with
  |zero=>intro s hs h;omega
  | succ d ih =>
    intro s hs hd hR
    by_cases hc:comR n R s=s
    · exact⟨s,hs,hc,fun _ h=>h⟩
    have hsub : ∀ a, s.testBit a = true → (comR n R s).testBit a = true := fun a ha => by
      have han:=bit_lt hs ha
      exact(comR_bit n R s a han).2 fun b hb hsb=>hR b a hb han hsb ha
    obtain ⟨b, hb1, hb2⟩ : ∃ b, (comR n R s).testBit b = true ∧ s.testBit b = false := by
      apply Classical.byContradiction
      intro hne
      apply hc
      apply Nat.eq_of_testBit_eq
      intro i
      cases h1:s.testBit i with
      |true=>exact hsub i h1
      | false =>
        cases h2:(comR n R s).testBit i with
        |false=>rfl
        |true=>exact absurd ⟨i,h2,h1⟩ hne
    have hbn:b<n:=bit_lt (setB_lt n _) hb1
    have hcom:=(comR_bit n R s b hbn).1 hb1
    have hlt : s < s ||| 2 ^ b := by
      have h1:s≤s|||2 ^ b:=Nat.left_le_or
      have h2 : s ≠ s ||| 2 ^ b := fun e => by
        have h3:(s|||2 ^ b).testBit b=true:=by rw [Nat.testBit_or,Nat.testBit_two_pow_self,Bool.or_true]
        rw [← e,hb2] at h3
        exact absurd h3 (by simp)
      omega
    have hlt2:s|||2 ^ b<2 ^ n:=Nat.or_lt_two_pow hs (Nat.pow_lt_pow_right (by omega) hbn)
    obtain ⟨t, t1, t2, t3⟩ := ih (s ||| 2 ^ b) hlt2 (by omega) (fun a c ha hc' h1 h2 => by
      rw [Nat.testBit_or,Nat.testBit_two_pow,Bool.or_eq_true,decide_eq_true_eq] at h1 h2
      rcases h1 with h1|h1
      · rcases h2 with h2 | h2
        · exact hR a c ha hc' h1 h2
        · subst h2;exact hcom a ha h1
      · subst h1
        rcases h2 with h2|h2
        · exact hsy c b hc' hbn (hcom c hc' h2)
        · subst h2;exact hr b hbn)
    exact⟨t,t1,t2,fun a ha=>t3 a (by rw [Nat.testBit_or,ha];rfl)⟩
def blkR (n : Nat) (R : Nat → Nat → Bool) : List Nat := (List.range (2 ^ n)).filter fun s => decide (1 ≤ s) && (comR n R s == s)
theorem mem_blkR {n : Nat} {R : Nat → Nat → Bool} {s : Nat} : s ∈ blkR n R ↔ s < 2 ^ n ∧ 1 ≤ s ∧ comR n R s = s := by
  unfold blkR
  rw [List.mem_filter, List.mem_range, Bool.and_eq_true, decide_eq_true_eq, beq_iff_eq]
theorem block_of {n : Nat} {R : Nat → Nat → Bool} (hr : ∀ a, a < n → R a a = true) (hsy : ∀ a b, a < n → b < n → R a b = true → R b a = true) {s : Nat} (hs : s < 2 ^ n) (h1 : 1 ≤ s) (hR : Rel n R s) :
    ∃t,t ∈ blkR n R∧ ∀a,s.testBit a=true→t.testBit a=true:=by
  obtain⟨t,t1,t2,t3⟩:=block_ext hr hsy (2 ^ n) s hs (by omega) hR
  refine⟨t,mem_blkR.2 ⟨t1,?_,t2⟩,t3⟩
  apply Classical.byContradiction
  intro h0
  have ht:t=0:=by omega
  obtain⟨i,hi⟩:=Nat.exists_testBit_of_ne_zero (show s≠0 by omega)
  have:=t3 i hi
  rw [ht,Nat.zero_testBit] at this
  exact absurd this (by simp)
end Go.Proofs.Ytcbjpdaogicibaa.Print
end
section
namespace Go.Proofs.Ytcbjpdaogicibaa.Print
open Go.RowKit Go.Proofs.YtcbjpdaogicibaaW.PrintWords Go.Proofs.YtcbjpdaogicibaaW.PrintLast Go.Proofs.YtcbjpdaogicibaaW.PrintMore
open Oml
section
variable {U : List (List Int)} {N : List Int} (L : Logic U N)
include L
theorem at2_fin (x y : Fin U.length) : (at2 U x.1 y.1 = 1 ↔ L.ol.le x y) ∧ (at2 U x.1 y.1 = 0 ↔ ¬ L.ol.le x y) := by
  have h : L.ol.le x y ↔ at2 U x.1 y.1 = 1 := by
    rw [← leB_fin L]; unfold leB; exact beq_iff_eq
  refine ⟨h.symm, ?_⟩
  rw [h]
  rcases L.bit x.1 y.1 x.2 y.2 with e | e <;> omega
theorem keepB_iff : keepB U N = true ↔ L.ol.Keeps := by
  unfold keepB OL.Keeps
  rw [allN_fin]
  have key : ∀ x y : Fin U.length, keepT U N x.1 y.1 = true ↔ (L.ol.le x y → L.ol.join x (L.ol.meet y (L.ol.neg x)) = y) := fun x y => by
    unfold keepT
    rw [Int.toNat_natCast,Int.toNat_natCast,not_fin L,and_fin L,or_fin L,fin_beq,Bool.or_eq_true,beq_iff_eq,decide_eq_true_eq,(at2_fin L x y).2]
    exact⟨fun h k=>h.resolve_left (fun n=>n k),fun h=>(Classical.em (L.ol.le x y)).elim (fun k=> .inr (h k)) .inl⟩
  constructor
  · intro h x y
    exact(key x y).1 (allN_fin.1 (h x) y)
  · intro h x
    exact allN_fin.2 fun y=>(key x y).2 (h x y)
end
theorem inR_one {U : List (List Int)} (x : Fin U.length) : [((x.1 : Nat) : Int)].all (inR U.length) = true := by
  simp only [List.all_cons, List.all_nil, Bool.and_true, inR_iff]; exact in_fin x
end Go.Proofs.Ytcbjpdaogicibaa.Print
end
section
namespace Go.Proofs.Ytcbjpdaogicibaa.Print
open Go.RowKit Go.Proofs.YtcbjpdaogicibaaW.PrintWords Go.Proofs.YtcbjpdaogicibaaW.PrintLast Go.Proofs.YtcbjpdaogicibaaW.PrintMore
open Oml
def blkS (U : List (List Int)) (N : List Int) : List Nat := blkR U.length fun a b => bothB U N (a : Int) (b : Int)
section
variable {U : List (List Int)} {N : List Int} (L : Logic U N)
include L
theorem withB_fin (x y : Fin U.length) : withB U N x.1 y.1 = true ↔ L.ol.C x y := by
  unfold withB OL.C
  rw [not_fin L, and_fin L, and_fin L, or_fin L, fin_beq, decide_eq_true_eq]
theorem bothB_fin (x y : Fin U.length) : bothB U N x.1 y.1 = true ↔ L.ol.C x y ∧ L.ol.C y x := by
  unfold bothB
  rw [Bool.and_eq_true, withB_fin L, withB_fin L]
theorem both_refl : ∀ a, a < U.length → bothB U N (a : Int) (a : Int) = true := fun a ha => by
  obtain ⟨x, rfl⟩ := fin_of_nat ha
  exact (bothB_fin L x x).2 ⟨OL.C_refl x, OL.C_refl x⟩
theorem both_symm : ∀ a b, a < U.length → b < U.length → bothB U N (a : Int) (b : Int) = true → bothB U N (b : Int) (a : Int) = true := fun a b ha hb h => by
  obtain⟨x,rfl⟩:=fin_of_nat ha
  obtain⟨y,rfl⟩:=fin_of_nat hb
  have:=(bothB_fin L x y).1 h
  exact(bothB_fin L y x).2 ⟨this.2,this.1⟩
theorem block_some (x : Fin U.length) : ∃ t, t ∈ blkS U N ∧ t.testBit x.1 = true := by
  obtain ⟨t, h1, h2⟩ := block_of (n := U.length) (R := fun a b => bothB U N (a : Int) (b : Int)) (s := 2 ^ x.1) (both_refl L) (both_symm L) (Nat.pow_lt_pow_right (by omega) x.2) Nat.one_le_two_pow (fun c d _ _ h1 h2 => by
    rw [Nat.testBit_two_pow,decide_eq_true_eq] at h1 h2
    subst h1;subst h2
    exact both_refl L _ x.2)
  exact⟨t,h1,h2 x.1 Nat.testBit_two_pow_self⟩
theorem block_bit {t : Nat} (ht : t ∈ blkS U N) (x : Fin U.length) : t.testBit x.1 = true ↔ ∀ y : Fin U.length, t.testBit y.1 = true → L.ol.C y x ∧ L.ol.C x y := by
  have h:=(mem_blkR.1 ht).2.2
  have h2:=comR_bit U.length (fun a b=>bothB U N (a:Int) (b:Int)) t x.1 x.2
  rw [h] at h2
  rw [h2]
  constructor
  · intro k y hy
    exact(bothB_fin L y x).1 (k y.1 y.2 hy)
  · intro k a ha hta
    obtain⟨y,rfl⟩:=fin_of_nat ha
    exact(bothB_fin L y x).2 (k y hta)
theorem block_bot {t : Nat} (ht : t ∈ blkS U N) : t.testBit L.ol.bot.1 = true :=
  (block_bit L ht L.ol.bot).2 fun y _ => ⟨OL.C_bot y, OL.C_of_le (L.ol.bot_le y)⟩
theorem block_neg (K : L.ol.Keeps) {t : Nat} (ht : t ∈ blkS U N) (x : Fin U.length) : t.testBit (L.ol.neg x).1 = t.testBit x.1 := by
  rw [Bool.eq_iff_iff,block_bit L ht,block_bit L ht]
  have hl: ∀y,L.ol.C (L.ol.neg x) y↔L.ol.C x y:=fun y=>⟨fun h=>by have:=K.C_neg_l h;rwa [L.ol.neg_neg] at this,K.C_neg_l⟩
  constructor
  · intro h y hy
    exact⟨(OL.C_neg_iff y x).1 (h y hy).1,(hl y).1 (h y hy).2⟩
  · intro h y hy
    exact⟨(OL.C_neg_iff y x).2 (h y hy).1,(hl y).2 (h y hy).2⟩
end
end Go.Proofs.Ytcbjpdaogicibaa.Print
end
section
namespace Go.Proofs.Ytcbjpdaogicibaa.Print
open Go.RowKit Go.Proofs.YtcbjpdaogicibaaW.PrintWords Go.Proofs.YtcbjpdaogicibaaW.PrintLast Go.Proofs.YtcbjpdaogicibaaW.PrintMore
open Oml
section
variable {b : List Int} (hb : Bytes b) (hl : b.length ≤ 2000)
include hb hl
theorem two_ev {p : Int} (h0 : 0 ≤ p) (h1 : p ≤ 999999000) (n : Int) : ∃ V M x y q, Ev (fun k => spec_l20Two.f k b p n) (V, M, x, y, q) ∧ p ≤ q ∧ q ≤ p + 124 := by
  obtain⟨V,M,q,h,k1,k2⟩:=logic_ev hb hl h0 (by omega) n
  obtain⟨v1,e1,_,_⟩:=pick_ev hb hl (p:=q) (by omega) (by omega) (mx (M.length:Int) 1)
  obtain⟨v2,e2,_,_⟩:=pick_ev hb hl (p:=q+1) (by omega) (by omega) 40
  obtain⟨v3,e3,_,_⟩:=pick_ev hb hl (p:=q+1+1) (by omega) (by omega) (mx (M.length:Int) 1)
  obtain⟨v4,e4,_,_⟩:=pick_ev hb hl (p:=q+1+1+1) (by omega) (by omega) 40
  exact⟨_,_,_,_,q+1+1+1+1,Ev.bind h (Ev.bind e1 (Ev.bind e2 (Ev.bind e3 (Ev.bind e4 (Ev.now _))))),by omega,by omega⟩
end
end Go.Proofs.Ytcbjpdaogicibaa.Print
end
section
namespace Go.Proofs.Ytcbjpdaogicibaa.Print
open Go.RowKit Go.Proofs.YtcbjpdaogicibaaW.PrintWords Go.Proofs.YtcbjpdaogicibaaW.PrintLast Go.Proofs.YtcbjpdaogicibaaW.PrintMore
open Oml
theorem drawBlocksWith_ev {l : List Int} (h : Bytes l) : ∃ V M x, Ev (fun k => spec_DrawBlocksWith.f k l) (V, M, x) := by
  obtain⟨b,hb,hbl,ho⟩:=open_ev h
  obtain⟨V,M,x,y,q,hd,_,_⟩:=two_ev hb hbl (p:=0) (by omega) (by omega) 14
  exact⟨V,M,x,by unfold spec_DrawBlocksWith.f;exact Ev.pbind ho (Ev.bind hd (Ev.now _))⟩
theorem laws_FnBlocksWith.ev (l : List Int) (h : Bytes l) : Ev (fun k => laws_FnBlocksWith.f k l) true := by
  unfold laws_FnBlocksWith.f
  by_cases hl:(l.length:Int)>1048576
  · exact Ev.ite_pos hl (Ev.now _)
  refine Ev.ite_neg hl ?_
  obtain⟨V,M,a,hd⟩:=drawBlocksWith_ev h
  refine Ev.bind hd (Ev.pbind rfl (Ev.bind (spec_BlocksWith.ev V M a) ?_))
  dsimp only
  refine Ev.ite_pos rfl ?_
  cases hg:logicB V M with
  |false=>exact Ev.ite_pos (by simp) (Ev.ite_pos (by simp) (Ev.bind alive_ok (Ev.now _)))
  |true=>
  have L:=logicB_iff.1 hg
  cases hin: [a].all (inR V.length) with
  |false=>exact Ev.ite_pos (by simp) (Ev.ite_pos (by simp) (Ev.bind alive_ok (Ev.now _)))
  |true=>
  simp only [List.all_cons,List.all_nil,Bool.and_true,Bool.and_eq_true,inR_iff] at hin
  obtain⟨x,rfl⟩:=fin_of hin
  have h1:=inR_one x
  have h2:=inR_one (L.ol.neg x)
  have h3:=inR_one L.ol.bot
  have hall:(blkN V M).countP (fun s=>s.testBit L.ol.bot.1)=(blkN V M).length:=List.countP_eq_length.2 fun s hs=>block_bot L hs
  have hpos : 1 ≤ (blkN V M).countP (fun s => s.testBit x.1) := by
    obtain⟨t,ht,hb⟩:=block_some L x
    exact List.countP_pos_iff.2 ⟨t,ht,hb⟩
  have hneg:L.ol.Keeps→(blkN V M).countP (fun s=>s.testBit (L.ol.neg x).1)=(blkN V M).countP (fun s=>s.testBit x.1):=fun K=>List.countP_congr fun s hs=>by rw [block_neg L K hs x]
  have hlen:=blkL_length V M
  have e1:impl_NotOf.f V M ((x.1:Nat):Int)=some (((L.ol.neg x).1:Nat):Int):=by unfold impl_NotOf.f;rw [hg,if_pos rfl,h1,if_pos rfl,not_fin L]
  have e2:impl_NoOf.f V M=some ((L.ol.bot.1:Nat):Int):=by unfold impl_NoOf.f;rw [hg,if_pos rfl,no_fin L]
  have e3: ∀y:Fin V.length,impl_BlocksWith.f V M ((y.1:Nat):Int)=some (((blkN V M).countP fun s=>s.testBit y.1:Nat):Int):=fun y=>by unfold impl_BlocksWith.f;rw [hg,if_pos rfl,inR_one y,if_pos rfl,Int.toNat_natCast]
  have e4:impl_BlocksOf.f V M=some (blkL V M):=by unfold impl_BlocksOf.f;rw [hg,if_pos rfl]
  have hz:((((blkN V M).countP fun s=>s.testBit L.ol.bot.1:Nat):Int)==((blkL V M).length:Int))=true:=by rw [hall,hlen,beq_self_eq_true]
  simp only [if_true,Int.toNat_natCast]
  refine Ev.ite_neg (by omega) (Ev.ite_pos (by omega) (Ev.pbind rfl ?_))
  rw [if_pos hg]
  cases hk:keepB V M with
  |false=>exact Ev.ite_neg (by simp) (Ev.pbind e2 (Ev.pbind (e3 _) (Ev.pbind e4 (by rw [hz];exact Ev.now _))))
  | true =>
    have K:=(keepB_iff L).1 hk
    exact Ev.ite_pos rfl (Ev.pbind e1 (Ev.pbind (e3 _) (Ev.ite_pos (by rw [hneg K]) (Ev.pbind e2 (Ev.pbind (e3 _) (Ev.pbind e4 (by rw [hz];exact Ev.now _)))))))
end Go.Proofs.Ytcbjpdaogicibaa.Print
namespace Go.Proofs.Ytcbjpdaogicibaa.Pure
open Go.RowKit Go.Proofs.Ytcbjpdaogicibaa.Print Go.Proofs.YtcbjpdaogicibaaW.PrintWords Go.Proofs.YtcbjpdaogicibaaW.PrintLast Go.Proofs.YtcbjpdaogicibaaW.PrintMore
theorem FnBlocksWith : laws_FnBlocksWith.Pure := fun l _ _ hw => (laws_FnBlocksWith.ev l fun x hx => by
  have:=hw x hx
  first|exact Go.RowKit.bounds_u8 this|exact Go.ChangeShapes.bounds_u8 this|exact bounds_u8 this|(simp [Lit.wf,IntKind.wf] at this;omega)|(simp [Lit.wf] at this;omega)).rounds
end Go.Proofs.Ytcbjpdaogicibaa.Pure
end
