/- Part 2 of what this is proved by: for every text of bytes the law of UpToOf answers true -/
import Derived.Test.YtdoomkcgdcfmlaaKUpToOfL1
import Derived.Below
import Derived.Deep.Draws
import Derived.Deep.AppendLies
import Derived.Maps.AppendAt
import Derived.OwnWalk
import Derived.Laws.BytesArg
import Derived.Laws.MakeOwn
import Derived.Laws.OwnMore
import Derived.Deep.OwnRows
import Derived.Tactics
import Derived.Lib.ConvBytes
import Derived.Laws.Slices
import Derived.WalkKit
import Derived.KernelRfl
import Derived.RowKit3
import Derived.Deep.LoopGhost
import Derived.Deep.QuietTactic
import Derived.BigQuiet
import Derived.WideLaws
import Derived.Deep.DeepCutAuto
import Derived.Deep.CutBlock
import Derived.Deep.RegionHeld3
import Derived.Laws.Rows
import Derived.Lib.AppendStr
import Derived.ArgAppend
import Derived.Laws.IdiomCopy
import Derived.RowKit
import Derived.Test.YtdoomkcgdcfmlaaProg
import Derived.OrdersHeld
import Derived.Laws.BitsLemmas
import Derived.Laws.Bits64b
import Derived.ProofKit
import Derived.OpenShut
set_option linter.all false
section
namespace Go.Proofs.Ytdoomkcgdcfmlaa.Print
open Go.RowKit Go.Proofs.YtdoomkcgdcfmlaaW.PrintWords Go.Proofs.YtdoomkcgdcfmlaaW.PrintLast Go.Proofs.YtdoomkcgdcfmlaaW.PrintMore
open Oml
theorem upP_allN (U : List (List Int)) (N : List Int) (a : Int) (n k : Nat) : (allN n fun b => !(projI U N a b == (k : Int))) = !upP U N a n k := by
  unfold allN upP
  rw [List.not_any_eq_all_not]
theorem Ev.both {ρ : Type} {g : Nat → Option ρ} {b : Bool} {R : ρ} (h : Ev g (if b = true then R else R)) : Ev g R := by
  split at h <;> exact h
theorem spec_UpToOf.ev (U : List (List Int)) (N : List Int) (a : Int) : Ev (fun k => spec_UpToOf.f k U N a) (if logicB U N = true then (if [a].all (inR U.length) = true then filI U.length (fun b => upP U N a U.length b) else []) else []) := by
  unfold spec_UpToOf.f
  by_cases hc:logicB U N=true∧inR U.length a=true
  · obtain ⟨hl, ha⟩ := hc
    have L:=logicB_iff.1 hl
    have Ia:In U a:=inR_iff.1 ha
    have a0:=Ia.1
    have a1:=Ia.2
    have hln:=L.len
    have hs:=L.small
    rw [if_pos hl,if_pos (by simpa using ha)]
    have hnot:Ev (fun k=>spec_NotOf.f k U N a) (notI N a):=Ev.eq (spec_NotOf.ev U N a) (by rw [if_pos hl,if_pos ha])
    have hn0:=(L.in_not Ia).1
    refine Ev.loop (g:=fun k s i=>spec_UpToOf.l0 k a s i U N) U.length (fun i s=>s=filI i (fun b=>upP U N a U.length b)) (by omega) (fun s h=>?_) (fun i s hi h=>?_) _ rfl
    · subst h
      refine Ev.succ ?_
      simp only [spec_UpToOf.l0]
      repeat(first|((with_reducible refine Ev.ite_pos ?_ ?_);(first|assumption|(focus omega)|(focus (simp;done))))|((with_reducible refine Ev.ite_neg ?_ ?_);(first|assumption|(focus omega)|(focus (simp;done)))))
      refine Ev.succ ?_
      simp only [spec_UpToOf.j1]
      repeat(first|((with_reducible refine Ev.ite_pos ?_ ?_);(first|assumption|(focus omega)|(focus (simp;done))))|((with_reducible refine Ev.ite_neg ?_ ?_);(first|assumption|(focus omega)|(focus (simp;done)))))
      exact Ev.now _
    · refine ⟨_, rfl, fun K => Ev.succ ?_⟩
      subst h
      simp only [spec_UpToOf.l0]
      repeat(first|((with_reducible refine Ev.ite_pos ?_ ?_);(first|assumption|(focus omega)|(focus (simp;done))))|((with_reducible refine Ev.ite_neg ?_ ?_);(first|assumption|(focus omega)|(focus (simp;done)))))
      refine Ev.bind hnot ?_
      rw [decide_eq_true (show notI N a≥0 from hn0)]
      refine Ev.succ ?_
      simp only [spec_UpToOf.j1]
      repeat(first|((with_reducible refine Ev.ite_pos ?_ ?_);(first|assumption|(focus omega)|(focus (simp;done))))|((with_reducible refine Ev.ite_neg ?_ ?_);(first|assumption|(focus omega)|(focus (simp;done)))))
      rw [filI_succ] at K
      refine Ev.both (b:=allN U.length fun b=>!(projI U N a b==(i:Int))) (Ev.all (n:=U.length) (g:=fun k j=>spec_UpToOf.l1 k a (filI i fun b=>upP U N a U.length b) (i:Int) j U N) (fun b=>!(projI U N a b==(i:Int))) (by omega) (fun hall=>?_) fun b hb _ R hR=>?_)
      · have hup : upP U N a U.length i = false := by
          have:=upP_allN U N a U.length i
          rw [allN_iff.2 hall] at this
          cases h:upP U N a U.length i with
          |false=>rfl
          |true=>rw [h] at this;simp at this
        rw [hup,if_neg (by simp)] at K
        refine Ev.succ ?_
        simp only [spec_UpToOf.l1]
        repeat(first|((with_reducible refine Ev.ite_pos ?_ ?_);(first|assumption|(focus omega)|(focus (simp;done))))|((with_reducible refine Ev.ite_neg ?_ ?_);(first|assumption|(focus omega)|(focus (simp;done)))))
        exact K
      · refine Ev.succ ?_
        simp only [spec_UpToOf.l1]
        have Ib:In U (b:Int):=⟨by omega,by omega⟩
        repeat(first|((with_reducible refine Ev.ite_pos ?_ ?_);(first|assumption|(focus omega)|(focus (simp;done))))|((with_reducible refine Ev.ite_neg ?_ ?_);(first|assumption|(focus omega)|(focus (simp;done)))))
        rw [rd_in L Ia]
        refine Ev.bind (join_in L (L.in_not Ia) Ib) (Ev.bind (meet_in L Ia (L.in_or (L.in_not Ia) Ib)) ?_)
        by_cases e:projI U N a b=(i:Int)
        · have e' : andI U a (orI U (notI N a) b) = (i : Int) := e
          have hup : upP U N a U.length i = true := by
            unfold upP
            rw [List.any_eq_true]
            exact⟨b,by simpa using hb,by simpa using e⟩
          rw [hup,if_pos rfl] at K
          have hlen:(filI i fun b=>upP U N a U.length b).length<17592186044416:=by have:=filI_length i (fun b=>upP U N a U.length b);omega
          repeat(first|((with_reducible refine Ev.ite_pos ?_ ?_);(first|assumption|(focus omega)|(focus (simp;done))))|((with_reducible refine Ev.ite_neg ?_ ?_);(first|assumption|(focus omega)|(focus (simp;done)))))
          exact Ev.eq K (by simp [e])
        · have e' : ¬ andI U a (orI U (notI N a) b) = (i : Int) := e
          repeat(first|((with_reducible refine Ev.ite_pos ?_ ?_);(first|assumption|(focus omega)|(focus (simp;done))))|((with_reducible refine Ev.ite_neg ?_ ?_);(first|assumption|(focus omega)|(focus (simp;done)))))
          exact Ev.eq (hR (by simp [e])) (by simp [e])
  · have hv : (if logicB U N = true then (if [a].all (inR U.length) = true then filI U.length (fun b => upP U N a U.length b) else []) else []) = ([] : List Int) := by
      by_cases hl:logicB U N=true
      · have ha : inR U.length a = false := by
          cases h:inR U.length a with
          |false=>rfl
          |true=>exact absurd ⟨hl,h⟩ hc
        rw [if_pos hl,if_neg (by simp [ha])]
      · rw [if_neg hl]
    rw [hv]
    have hnot : Ev (fun k => spec_NotOf.f k U N a) (-1) := Ev.eq (spec_NotOf.ev U N a) (by
      by_cases hl:logicB U N=true
      · rw [if_pos hl,if_neg (fun h=>hc ⟨hl,h⟩)]
      · rw [if_neg hl])
    refine Ev.succ ?_
    simp only [spec_UpToOf.l0]
    by_cases hp:(0:Int)<(N.length:Int)
    · repeat (first | ((with_reducible refine Ev.ite_pos ?_ ?_); (first | assumption | (focus omega) | (focus (simp; done)))) | ((with_reducible refine Ev.ite_neg ?_ ?_); (first | assumption | (focus omega) | (focus (simp; done)))))
      refine Ev.bind hnot ?_
      refine Ev.succ ?_
      simp only [spec_UpToOf.j1]
      repeat(first|((with_reducible refine Ev.ite_pos ?_ ?_);(first|assumption|(focus omega)|(focus (simp;done))))|((with_reducible refine Ev.ite_neg ?_ ?_);(first|assumption|(focus omega)|(focus (simp;done)))))
      exact Ev.now _
    · repeat (first | ((with_reducible refine Ev.ite_pos ?_ ?_); (first | assumption | (focus omega) | (focus (simp; done)))) | ((with_reducible refine Ev.ite_neg ?_ ?_); (first | assumption | (focus omega) | (focus (simp; done)))))
      refine Ev.succ ?_
      simp only [spec_UpToOf.j1]
      repeat(first|((with_reducible refine Ev.ite_pos ?_ ?_);(first|assumption|(focus omega)|(focus (simp;done))))|((with_reducible refine Ev.ite_neg ?_ ?_);(first|assumption|(focus omega)|(focus (simp;done)))))
      exact Ev.now _
def filN (n : Nat) (p : Nat → Bool) : List Nat := (List.range n).filter p
theorem filI_eq (n : Nat) (p : Nat → Bool) : filI n p = (filN n p).map fun (s : Nat) => (s : Int) := rfl
theorem filI_len (n : Nat) (p : Nat → Bool) : (filI n p).length = (filN n p).length := by rw [filI_eq, List.length_map]
theorem filI_at (n : Nat) (p : Nat → Bool) (i : Nat) : at1 (filI n p) i = (((filN n p).getD i 0 : Nat) : Int) := by
  rw [filI_eq]
  simp only [at1, List.getD_eq_getElem?_getD, List.getElem?_map]
  cases (filN n p)[i]? <;> rfl
theorem hasInt_ev (l : List Int) (x : Int) (hl : l.length < 4611686018427387904) : Ev (fun k => laws_hasInt.f k l x) (decide (x ∈ l)) := by
  unfold laws_hasInt.f
  refine Ev.eq (Ev.all (g:=fun k i=>laws_hasInt.l0 k l x i) (n:=l.length) (fun i=>!(at1 l i==x)) (go:=false) (stop:=true) hl (fun _=>?_) (fun i hi _ R hR=>?_)) ?_
  · refine Ev.succ ?_
    simp only [laws_hasInt.l0]
    exact Ev.ite_neg (by omega) (Ev.now _)
  · refine Ev.succ ?_
    simp only [laws_hasInt.l0,rd_nat]
    refine Ev.ite_pos (by omega) (Ev.ite_pos (by omega) ?_)
    by_cases e:at1 l i=x
    · rw [show (!(at1 l i == x)) = false by simp [e]]
      exact Ev.ite_pos e (Ev.now _)
    · have e2 : (!(at1 l i == x)) = true := by simp [e]
      rw [e2] at hR ⊢
      exact Ev.ite_neg e (hR rfl)
  · have hat : ∀ i (hi : i < l.length), at1 l i = l[i] := fun i hi => by
      unfold at1;rw [List.getD_eq_getElem?_getD,List.getElem?_eq_getElem hi];rfl
    by_cases h:x ∈ l
    · obtain ⟨i, hi, e⟩ := List.getElem_of_mem h
      have h2:allN l.length (fun i=>!(at1 l i==x))=false:=allN_false.2 ⟨i,hi,by rw [hat i hi,e];simp⟩
      rw [h2,decide_eq_true h];rfl
    · have h2 : allN l.length (fun i => !(at1 l i == x)) = true := allN_iff.2 fun i hi => by
        rw [hat i hi]
        have:l[i]≠x:=fun e=>h (e ▸ List.getElem_mem hi)
        simp [this]
      rw [h2,decide_eq_false h];rfl
theorem mem_filI {n : Nat} {p : Nat → Bool} {x : Int} : x ∈ filI n p ↔ ∃ i : Nat, x = (i : Int) ∧ i < n ∧ p i = true := by
  rw [filI_eq,List.mem_map]
  constructor
  · rintro ⟨i, hi, rfl⟩
    have:=List.mem_filter.1 hi
    exact⟨i,rfl,by simpa using this.1,this.2⟩
  · rintro ⟨i, rfl, h1, h2⟩
    exact⟨i,List.mem_filter.2 ⟨by simpa using h1,h2⟩,rfl⟩
theorem filI_nat {n : Nat} {p : Nat → Bool} {i : Nat} : decide ((i : Int) ∈ filI n p) = (decide (i < n) && p i) := by
  rw [Bool.eq_iff_iff,decide_eq_true_eq,mem_filI,Bool.and_eq_true,decide_eq_true_eq]
  constructor
  · rintro ⟨j, e, h1, h2⟩
    obtain rfl:i=j:=by omega
    exact⟨h1,h2⟩
  · rintro ⟨h1, h2⟩
    exact⟨i,rfl,h1,h2⟩
theorem sameInts_ev (l : List Int) (hl : l.length < 4611686018427387904) : Ev (fun k => laws_sameInts.f k l l) true := by
  unfold laws_sameInts.f
  refine Ev.ite_pos rfl ?_
  refine Ev.loop (g:=fun k (_:Unit) i=>laws_sameInts.l0 k l l i) l.length (fun _ _=>True) hl (fun _ _=>?_) (fun i _ hi _=>⟨(),trivial,fun hn=>?_⟩) () trivial
  · refine Ev.succ ?_
    simp only [laws_sameInts.l0]
    exact Ev.ite_neg (by omega) (Ev.now _)
  · refine Ev.succ ?_
    simp only [laws_sameInts.l0]
    exact Ev.ite_pos (by omega) (Ev.ite_pos (by omega) (Ev.ite_pos (by omega) (Ev.ite_pos (by simp) hn)))
theorem filI_lt {n : Nat} {p : Nat → Bool} {i : Nat} (hi : i + 1 < (filI n p).length) : at1 (filI n p) i < at1 (filI n p) (i + 1) := by
  rw [filI_at,filI_at]
  have hl:(filI n p).length=(filN n p).length:=filI_len _ _
  have hp:(filN n p).Pairwise (· < ·):=List.Pairwise.filter _ List.pairwise_lt_range
  have h1:=List.pairwise_iff_getElem.1 hp i (i+1) (by omega) (by omega) (by omega)
  rw [List.getD_eq_getElem?_getD,List.getD_eq_getElem?_getD,List.getElem?_eq_getElem (by omega),List.getElem?_eq_getElem (by omega)]
  show (((filN n p)[i]:Nat):Int)<(((filN n p)[i+1]:Nat):Int)
  omega
theorem ascend_ev {n : Nat} (p : Nat → Bool) (hn : n < 4611686018427387904) : Ev (fun k => laws_ascend.f k (filI n p)) true := by
  have hfl:=filI_length n p
  unfold laws_ascend.f
  have key : ∀ d i : Nat, 1 ≤ i → (filI n p).length ≤ i + d → i ≤ n + 1 → Ev (fun k => laws_ascend.l0 k (filI n p) (i : Int)) true := by
    intro d
    induction d with
    | zero =>
      intro i _ h _
      refine Ev.succ ?_
      simp only [laws_ascend.l0]
      exact Ev.ite_neg (by omega) (Ev.now _)
    | succ d ih =>
      intro i h1 h h2
      refine Ev.succ ?_
      simp only [laws_ascend.l0]
      by_cases hi:i<(filI n p).length
      · have w1 : wrap64 ((i : Int) - 1) = ((i - 1 : Nat) : Int) := by rw [wrap_pos (by omega) (by omega)]; omega
        have w2:wrap64 ((i:Int)+1)=((i+1:Nat):Int):=wrap_nat (by omega)
        have hlt:=filI_lt (n:=n) (p:=p) (i:=i - 1) (by omega)
        rw [show i - 1+1=i by omega] at hlt
        rw [w1,w2,rd_nat,rd_nat]
        exact Ev.ite_pos (by omega) (Ev.ite_pos (by omega) (Ev.ite_pos (by omega) (Ev.ite_pos (by omega) (Ev.ite_neg (by omega) (ih (i+1) (by omega) (by omega) (by omega))))))
      · exact Ev.ite_neg (by omega) (Ev.now _)
  by_cases h0:n=0
  · have := key 0 1 (Nat.le_refl _) (by omega) (by omega)
    exact this
  · exact key (filI n p).length 1 (Nat.le_refl _) (by omega) (by omega)
end Go.Proofs.Ytdoomkcgdcfmlaa.Print
end
section
namespace Go.Proofs.Ytdoomkcgdcfmlaa.Print
open Go.RowKit Go.Proofs.YtdoomkcgdcfmlaaW.PrintWords Go.Proofs.YtdoomkcgdcfmlaaW.PrintLast Go.Proofs.YtdoomkcgdcfmlaaW.PrintMore
open Oml
section
variable {U : List (List Int)} {N : List Int} (L : Logic U N)
theorem fin_of {a : Int} (ia : In U a) : ∃ x : Fin U.length, a = ((x.1 : Nat) : Int) := ⟨⟨a.toNat, by have := ia.1; have := ia.2; omega⟩, by have := ia.1; show a = ((a.toNat : Nat) : Int); omega⟩
theorem fin_of_nat {i : Nat} (h : i < U.length) : ∃ x : Fin U.length, i = x.1 := ⟨⟨i, h⟩, rfl⟩
theorem fin_inj {x y : Fin U.length} : (((x.1 : Nat) : Int) = ((y.1 : Nat) : Int)) ↔ x = y := by
  constructor
  · intro h; exact Fin.ext (by omega)
  · intro h; rw [h]
theorem fin_beq (x y : Fin U.length) : (((x.1 : Nat) : Int) == ((y.1 : Nat) : Int)) = decide (x = y) := by
  rw [Bool.eq_iff_iff, beq_iff_eq, decide_eq_true_eq]; exact fin_inj
theorem and_fin (x y : Fin U.length) : andI U x.1 y.1 = (((L.ol.meet x y).1 : Nat) : Int) := by
  show mI U ((x.1 : Nat) : Int).toNat ((y.1 : Nat) : Int).toNat = _
  unfold mI; rw [Int.toNat_natCast, Int.toNat_natCast, L.mt_eq]; rfl
theorem or_fin (x y : Fin U.length) : orI U x.1 y.1 = (((L.ol.join x y).1 : Nat) : Int) := by
  show jI U ((x.1 : Nat) : Int).toNat ((y.1 : Nat) : Int).toNat = _
  unfold jI; rw [Int.toNat_natCast, Int.toNat_natCast, L.jn_eq]; rfl
theorem not_fin (x : Fin U.length) : notI N x.1 = (((L.ol.neg x).1 : Nat) : Int) := by
  show at1 N ((x.1 : Nat) : Int).toNat = _
  rw [Int.toNat_natCast, L.ng_eq]; rfl
theorem leB_fin (x y : Fin U.length) : leB U x.1 y.1 = true ↔ L.ol.le x y := Iff.rfl
theorem allN_fin {n : Nat} {p : Nat → Bool} : allN n p = true ↔ ∀ x : Fin n, p x.1 = true := by
  rw [allN_iff]
  exact ⟨fun h x => h x.1 x.2, fun h i hi => h ⟨i, hi⟩⟩
end
end Go.Proofs.Ytdoomkcgdcfmlaa.Print
end
section
namespace Go.Proofs.Ytdoomkcgdcfmlaa.Print
open Go.RowKit Go.Proofs.YtdoomkcgdcfmlaaW.PrintWords Go.Proofs.YtdoomkcgdcfmlaaW.PrintLast Go.Proofs.YtdoomkcgdcfmlaaW.PrintMore
open Oml
def keepT (U : List (List Int)) (N : List Int) (a b : Int) : Bool := (at2 U a.toNat b.toNat == 0) || (orI U a (andI U b (notI N a)) == b)
def keepB (U : List (List Int)) (N : List Int) : Bool := allN U.length fun a => allN U.length fun b => keepT U N a b
end Go.Proofs.Ytdoomkcgdcfmlaa.Print
end
section
namespace Go.Proofs.Ytdoomkcgdcfmlaa.Print
open Go.RowKit Go.Proofs.YtdoomkcgdcfmlaaW.PrintWords Go.Proofs.YtdoomkcgdcfmlaaW.PrintLast Go.Proofs.YtdoomkcgdcfmlaaW.PrintMore
open Oml
theorem spec_KeepsOk.ev (U : List (List Int)) (N : List Int) : Ev (fun k => spec_KeepsOk.f k U N) (if logicB U N = true then keepB U N else false) := by
  unfold spec_KeepsOk.f
  have hlo:=spec_LogicOk.ev U N
  cases hg:logicB U N with
  | false =>
    rw [hg] at hlo
    rw [if_neg (by simp)]
    refine Ev.succ ?_
    simp only [spec_KeepsOk.l0]
    have hj : Ev (fun k => spec_KeepsOk.j1 k 0 false U N) false := by
      refine Ev.succ ?_
      simp only [spec_KeepsOk.j1]
      exact Ev.ite_neg (by simp) (Ev.bind hlo (Ev.now _))
    by_cases h0:(0:Int)<(N.length:Int)
    · exact Ev.ite_pos h0 (Ev.bind hlo hj)
    · exact Ev.ite_neg h0 hj
  | true =>
    rw [hg] at hlo
    have L:=logicB_iff.1 hg
    have hlen:=L.len
    have hsm:=L.small
    rw [if_pos rfl]
    unfold keepB
    refine Ev.eq (Ev.all (g:=fun k i=>spec_KeepsOk.l0 k i U N) (n:=U.length) (fun a=>allN U.length fun b=>keepT U N a b) (go:=true) (stop:=false) (by omega) (fun _=>?_) (fun i hi _ R hR=>?_)) (by cases allN U.length _ <;> rfl)
    · refine Ev.succ ?_
      simp only [spec_KeepsOk.l0]
      refine Ev.ite_neg (by omega) (Ev.succ ?_)
      simp only [spec_KeepsOk.j1]
      exact Ev.ite_neg (by simp) (Ev.bind hlo (Ev.now _))
    · refine Ev.succ ?_
      simp only [spec_KeepsOk.l0]
      refine Ev.ite_pos (by omega) (Ev.bind hlo (Ev.succ ?_))
      simp only [spec_KeepsOk.j1]
      refine Ev.ite_pos (by simp) ?_
      have hrow:=L.row i hi
      have hran:=L.ran i hi
      refine Ev.all (g:=fun k j=>spec_KeepsOk.l1 k (i:Int) j U N) (n:=U.length) (fun b=>keepT U N i b) (go:=R) (stop:=false) (by omega) (fun hall=>?_) (fun j hj _ R' hR'=>?_)
      · refine Ev.succ ?_
        simp only [spec_KeepsOk.l1]
        exact Ev.ite_neg (by omega) (hR (allN_iff.2 hall))
      · refine Ev.succ ?_
        simp only [spec_KeepsOk.l1,rdL_nat,rd_nat,rd_row,hrow]
        refine Ev.ite_pos (by omega) (Ev.ite_pos (by omega) (Ev.ite_pos (by omega) (Ev.ite_pos (by omega) (Ev.ite_pos (by omega) ?_))))
        have hk : keepT U N i j = ((at2 U i j == 0) || (orI U i (andI U j (notI N i)) == (j : Int))) := by
          unfold keepT;rw [Int.toNat_natCast,Int.toNat_natCast]
        rcases L.bit i j hi hj with e|e
        · rw [hk, e] at hR' ⊢
          exact Ev.ite_neg (by omega) (hR' rfl)
        · have iI : In U ((i : Nat) : Int) := ⟨by omega, by omega⟩
          have iJ:In U ((j:Nat):Int):=⟨by omega,by omega⟩
          have hn:at1 N i=notI N (i:Int):=by unfold notI;rw [Int.toNat_natCast]
          rw [hk,e] at hR' ⊢
          rw [hn]
          refine Ev.ite_pos (by simp) (Ev.ite_pos (by omega) (Ev.bind (meet_in L iJ (L.in_not iI)) (Ev.bind (join_in L iI (L.in_and iJ (L.in_not iI))) ?_)))
          by_cases c:orI U i (andI U j (notI N i))=(j:Int)
          · have c2 : ((1 : Int) == 0 || (orI U i (andI U j (notI N i)) == (j : Int))) = true := by rw [c]; simp
            rw [c2] at hR' ⊢
            exact Ev.ite_pos c (hR' rfl)
          · have c2 : ((1 : Int) == 0 || (orI U i (andI U j (notI N i)) == (j : Int))) = false := by
              rw [Bool.or_eq_false_iff];exact⟨rfl,beq_eq_false_iff_ne.2 c⟩
            rw [c2]
            exact Ev.ite_neg c (Ev.now _)
section
variable {U : List (List Int)} {N : List Int} (L : Logic U N)
include L
theorem at2_fin (x y : Fin U.length) : (at2 U x.1 y.1 = 1 ↔ L.ol.le x y) ∧ (at2 U x.1 y.1 = 0 ↔ ¬ L.ol.le x y) := by
  have h : L.ol.le x y ↔ at2 U x.1 y.1 = 1 := by
    rw [← leB_fin L]; unfold leB; exact beq_iff_eq
  refine ⟨h.symm, ?_⟩
  rw [h]
  rcases L.bit x.1 y.1 x.2 y.2 with e | e <;> omega
theorem keepB_iff : keepB U N = true ↔ L.ol.Keeps := by
  unfold keepB OL.Keeps
  rw [allN_fin]
  have key : ∀ x y : Fin U.length, keepT U N x.1 y.1 = true ↔ (L.ol.le x y → L.ol.join x (L.ol.meet y (L.ol.neg x)) = y) := fun x y => by
    unfold keepT
    rw [Int.toNat_natCast,Int.toNat_natCast,not_fin L,and_fin L,or_fin L,fin_beq,Bool.or_eq_true,beq_iff_eq,decide_eq_true_eq,(at2_fin L x y).2]
    exact⟨fun h k=>h.resolve_left (fun n=>n k),fun h=>(Classical.em (L.ol.le x y)).elim (fun k=> .inr (h k)) .inl⟩
  constructor
  · intro h x y
    exact(key x y).1 (allN_fin.1 (h x) y)
  · intro h x
    exact allN_fin.2 fun y=>(key x y).2 (h x y)
theorem proj_fin (x y : Fin U.length) : andI U x.1 (orI U (notI N x.1) y.1) = (((L.ol.proj x y).1 : Nat) : Int) := by rw [not_fin L, or_fin L, and_fin L]; rfl
end
end Go.Proofs.Ytdoomkcgdcfmlaa.Print
end
section
namespace Go.Proofs.Ytdoomkcgdcfmlaa.Print
open Go.RowKit Go.Proofs.YtdoomkcgdcfmlaaW.PrintWords Go.Proofs.YtdoomkcgdcfmlaaW.PrintLast Go.Proofs.YtdoomkcgdcfmlaaW.PrintMore
open Oml
section
variable {b : List Int} (hb : Bytes b) (hl : b.length ≤ 2000)
include hb hl
theorem two_ev {p : Int} (h0 : 0 ≤ p) (h1 : p ≤ 999999000) (n : Int) : ∃ V M x y q, Ev (fun k => spec_l20Two.f k b p n) (V, M, x, y, q) ∧ p ≤ q ∧ q ≤ p + 124 := by
  obtain⟨V,M,q,h,k1,k2⟩:=logic_ev hb hl h0 (by omega) n
  obtain⟨v1,e1,_,_⟩:=pick_ev hb hl (p:=q) (by omega) (by omega) (mx (M.length:Int) 1)
  obtain⟨v2,e2,_,_⟩:=pick_ev hb hl (p:=q+1) (by omega) (by omega) 40
  obtain⟨v3,e3,_,_⟩:=pick_ev hb hl (p:=q+1+1) (by omega) (by omega) (mx (M.length:Int) 1)
  obtain⟨v4,e4,_,_⟩:=pick_ev hb hl (p:=q+1+1+1) (by omega) (by omega) 40
  exact⟨_,_,_,_,q+1+1+1+1,Ev.bind h (Ev.bind e1 (Ev.bind e2 (Ev.bind e3 (Ev.bind e4 (Ev.now _))))),by omega,by omega⟩
end
end Go.Proofs.Ytdoomkcgdcfmlaa.Print
end
section
namespace Go.Proofs.Ytdoomkcgdcfmlaa.Print
open Go.RowKit Go.Proofs.YtdoomkcgdcfmlaaW.PrintWords Go.Proofs.YtdoomkcgdcfmlaaW.PrintLast Go.Proofs.YtdoomkcgdcfmlaaW.PrintMore
open Oml
theorem drawUpToOf_ev {l : List Int} (h : Bytes l) : ∃ V M x, Ev (fun k => spec_DrawUpToOf.f k l) (V, M, x) := by
  obtain⟨b,hb,hbl,ho⟩:=open_ev h
  obtain⟨V,M,x,y,q,hd,_,_⟩:=two_ev hb hbl (p:=0) (by omega) (by omega) 14
  exact⟨V,M,x,by unfold spec_DrawUpToOf.f;exact Ev.pbind ho (Ev.bind hd (Ev.now _))⟩
theorem laws_FnUpToOf.ev (l : List Int) (h : Bytes l) : Ev (fun k => laws_FnUpToOf.f k l) true := by
  unfold laws_FnUpToOf.f
  by_cases hl:(l.length:Int)>1048576
  · exact Ev.ite_pos hl (Ev.now _)
  refine Ev.ite_neg hl ?_
  obtain⟨V,M,a,hd⟩:=drawUpToOf_ev h
  refine Ev.bind hd (Ev.pbind rfl (Ev.bind (spec_UpToOf.ev V M a) ?_))
  dsimp only
  cases hg:logicB V M with
  |false=>exact Ev.bind (sameInts_ev [] (by simp)) (Ev.ite_pos rfl (Ev.ite_pos rfl (Ev.bind alive_ok (Ev.now _))))
  |true=>
  have L:=logicB_iff.1 hg
  cases hin: [a].all (inR V.length) with
  |false=>exact Ev.bind (sameInts_ev [] (by simp)) (Ev.ite_pos rfl (Ev.ite_pos rfl (Ev.bind alive_ok (Ev.now _))))
  |true=>
  simp only [List.all_cons,List.all_nil,Bool.and_true,Bool.and_eq_true,inR_iff] at hin
  obtain⟨x,rfl⟩:=fin_of hin
  have hx:=x.2
  have hlen:=L.len
  have hsm:=L.small
  rw [if_pos rfl,if_pos rfl]
  have hfl:=filI_length V.length (fun b=>upP V M ((x.1:Nat):Int) V.length b)
  refine Ev.bind (sameInts_ev _ (by omega)) (Ev.ite_pos rfl ?_)
  have hmem : ∀ y : Fin V.length, upP V M ((x.1 : Nat) : Int) V.length y.1 = true ↔ ∃ z, L.ol.proj x z = y := fun y => by
    unfold upP
    rw [List.any_eq_true]
    constructor
    · rintro ⟨b, hb, e⟩
      have hb':b<V.length:=by simpa using hb
      obtain⟨z,rfl⟩:=fin_of_nat hb'
      unfold projI at e
      rw [proj_fin L,fin_beq,decide_eq_true_eq] at e
      exact⟨z,e⟩
    · rintro ⟨z, e⟩
      refine⟨z.1,by simpa using z.2,?_⟩
      unfold projI
      rw [proj_fin L,fin_beq,decide_eq_true_eq]
      exact e
  by_cases h0:((filI V.length (fun b=>upP V M ((x.1:Nat):Int) V.length b)).length:Int)=0
  · exact Ev.ite_pos h0 (Ev.bind alive_ok (Ev.now _))
  refine Ev.ite_neg h0 ?_
  refine Ev.loop (g:=fun k (_:Unit) i=>laws_FnUpToOf.l0 k ((x.1:Nat):Int) (filI V.length (fun b=>upP V M ((x.1:Nat):Int) V.length b)) i V M) V.length (fun _ _=>True) (by omega) (fun _ _=>?_) (fun c _ hc _=>⟨(),trivial,fun hnext=>?_⟩) () trivial
  · refine Ev.succ ?_
    simp only [laws_FnUpToOf.l0]
    exact Ev.ite_neg (by omega) (Ev.bind (ascend_ev _ (by omega)) (Ev.now _))
  · obtain ⟨y, rfl⟩ := fin_of_nat hc
    have hrow:=L.row y.1 hc
    have hhas:=hasInt_ev (filI V.length (fun b=>upP V M ((x.1:Nat):Int) V.length b)) ((y.1:Nat):Int) (by omega)
    rw [filI_nat,decide_eq_true hc,Bool.true_and] at hhas
    have hke:=spec_KeepsOk.ev V M
    rw [if_pos hg] at hke
    refine Ev.succ ?_
    simp only [laws_FnUpToOf.l0,rdL_nat,rd_nat,rd_row,hrow]
    refine Ev.ite_pos (by omega) (Ev.bind hhas ?_)
    have hbit:(at2 V y.1 x.1==1)=true↔L.ol.le y x:=by rw [beq_iff_eq];exact(at2_fin L y x).1
    cases hu:upP V M ((x.1:Nat):Int) V.length y.1 with
    | true =>
      rw [hu] at hhas
      obtain⟨z,hz⟩:=(hmem y).1 hu
      have hle:L.ol.le y x:=hz ▸ OL.proj_le x z
      refine Ev.ite_pos rfl (Ev.ite_pos (by omega) (Ev.ite_pos (by omega) (Ev.ite_pos (by omega) (Ev.ite_pos (by omega) (Ev.ite_neg (fun e=>(at2_fin L y x).2.1 e hle) (Ev.bind hke ?_))))))
      cases hk:keepB V M with
      |false=>exact Ev.ite_neg (by simp) hnext
      |true=>exact Ev.ite_pos rfl (Ev.bind hhas (Ev.ite_neg (by rw [hbit.2 hle];simp) hnext))
    | false =>
      rw [hu] at hhas
      refine Ev.ite_neg (by simp) (Ev.bind hke ?_)
      cases hk:keepB V M with
      |false=>exact Ev.ite_neg (by simp) hnext
      | true =>
        have K:=(keepB_iff L).1 hk
        have hnle : ¬ L.ol.le y x := fun hle => by
          have:=(hmem y).2 ⟨y,K.proj_below hle⟩
          rw [hu] at this;exact absurd this (by simp)
        have hb2:(at2 V y.1 x.1==1)=false:=Bool.eq_false_iff.2 fun e=>hnle (hbit.1 e)
        exact Ev.ite_pos rfl (Ev.bind hhas (Ev.ite_pos (by omega) (Ev.ite_pos (by omega) (Ev.ite_pos (by omega) (Ev.ite_pos (by omega) (Ev.ite_neg (by rw [hb2];simp) hnext))))))
end Go.Proofs.Ytdoomkcgdcfmlaa.Print
namespace Go.Proofs.Ytdoomkcgdcfmlaa.Pure
open Go.RowKit Go.Proofs.Ytdoomkcgdcfmlaa.Print Go.Proofs.YtdoomkcgdcfmlaaW.PrintWords Go.Proofs.YtdoomkcgdcfmlaaW.PrintLast Go.Proofs.YtdoomkcgdcfmlaaW.PrintMore
theorem FnUpToOf : laws_FnUpToOf.Pure := fun l _ _ hw => (laws_FnUpToOf.ev l fun x hx => by
  have := hw x hx
  first | exact Go.RowKit.bounds_u8 this | exact Go.ChangeShapes.bounds_u8 this | exact bounds_u8 this | (simp [Lit.wf, IntKind.wf] at this; omega) | (simp [Lit.wf] at this; omega)).rounds
end Go.Proofs.Ytdoomkcgdcfmlaa.Pure
end
