/- Part 2 of what this is proved by: The law of BooleanOk. -/
import Derived.Test.YtcbjpdaogicibaaKBooleanOkL1
import Derived.Below
import Derived.Deep.Draws
import Derived.Deep.AppendLies
import Derived.Maps.AppendAt
import Derived.OwnWalk
import Derived.Laws.BytesArg
import Derived.Laws.MakeOwn
import Derived.Laws.OwnMore
import Derived.Deep.OwnRows
import Derived.Tactics
import Derived.Lib.ConvBytes
import Derived.Laws.Slices
import Derived.WalkKit
import Derived.KernelRfl
import Derived.RowKit3
import Derived.Deep.LoopGhost
import Derived.Deep.QuietTactic
import Derived.BigQuiet
import Derived.WideLaws
import Derived.Deep.DeepCutAuto
import Derived.Deep.CutBlock
import Derived.Deep.RegionHeld3
import Derived.Laws.Rows
import Derived.Lib.AppendStr
import Derived.ArgAppend
import Derived.Laws.IdiomCopy
import Derived.RowKit
import Derived.Test.YtcbjpdaogicibaaProg
import Derived.OrdersHeld
import Derived.Laws.BitsLemmas
import Derived.Laws.Bits64b
import Derived.ProofKit
import Derived.OpenShut
set_option linter.all false
section
namespace Go.Proofs.Ytcbjpdaogicibaa.Print
open Go.RowKit Go.Proofs.YtcbjpdaogicibaaW.PrintWords Go.Proofs.YtcbjpdaogicibaaW.PrintLast Go.Proofs.YtcbjpdaogicibaaW.PrintMore
open Oml
theorem inj_le : ∀ (m n : Nat) (f : Nat → Nat), (∀ i, i < n → f i < m) → (∀ i j, i < n → j < n → f i = f j → i = j) → n ≤ m
  |m,0,_,_,_=>Nat.zero_le _
  |0,n+1,f,h,_=>absurd (h 0 (by omega)) (Nat.not_lt_zero _)
  | m + 1, n + 1, f, h, hi => by
    refine Nat.succ_le_succ (inj_le m n (fun i=>if f i=m then f n else f i) (fun i hin=>?_) (fun i j hin hjn e=>?_))
    · by_cases c : f i = m
      · simp only [c, if_true]
        have h1:=h n (by omega)
        have h2:f n≠m:=fun e=>by have:=hi i n (by omega) (by omega) (by rw [c,e]);omega
        omega
      · simp only [c, if_false]
        have h1:=h i (by omega)
        omega
    · by_cases c : f i = m
      · by_cases d : f j = m
        · exact hi i j (by omega) (by omega) (by rw [c,d])
        · simp only [c, d, if_true, if_false] at e
          have:=hi n j (by omega) (by omega) e;omega
      · by_cases d : f j = m
        · simp only [c, d, if_true, if_false] at e
          have:=hi i n (by omega) (by omega) e;omega
        · simp only [c, d, if_false] at e
          exact hi i j (by omega) (by omega) e
section
variable {U : List (List Int)} {N : List Int} (L : Logic U N)
include L
theorem atom_iff (x : Fin U.length) : atomB U x.1 = true ↔ L.ol.Atom x := atomB_iff L x
theorem atom_below : ∀ (m : Nat) (x : Fin U.length), hi U x ≤ m → x ≠ L.ol.bot → ∃ p, L.ol.Atom p ∧ L.ol.le p x := by
  intro m
  have H:=hi_high L
  induction m with
  |zero=>intro x h hx;exact absurd ((H.bot_iff x).1 (by omega)) hx
  | succ m ih =>
    intro x h hx
    by_cases ha:L.ol.Atom x
    · exact⟨x,ha,L.ol.le_refl x⟩
    · obtain ⟨b, h1, h2, h3⟩ : ∃ b, L.ol.le b x ∧ b ≠ L.ol.bot ∧ b ≠ x := by
        apply Classical.byContradiction
        intro hne
        apply ha
        refine⟨hx,fun b hb=>?_⟩
        apply Classical.byContradiction
        intro hn
        rw [not_or] at hn
        exact hne ⟨b,hb,hn.1,hn.2⟩
      have h4:=H.mono b x h1 h3
      obtain⟨p,hp,hpb⟩:=ih b (by omega) h2
      exact⟨p,hp,L.ol.le_trans _ _ _ hpb h1⟩
theorem atoms_le (B : L.ol.Boolean) {x y : Fin U.length} (h : ∀ p, L.ol.Atom p → L.ol.le p x → L.ol.le p y) : L.ol.le x y := by
  apply Classical.byContradiction
  intro hn
  have h1 : L.ol.meet x (L.ol.neg y) ≠ L.ol.bot := fun e => by
    apply hn
    have h2:=B x y (L.ol.neg y)
    unfold OL.Split at h2
    rw [L.ol.join_neg,L.ol.meet_top,e,L.ol.join_bot] at h2
    exact(L.ol.meet_eq_l x y).1 h2.symm
  obtain⟨p,hp,hpx⟩:=atom_below L _ _ (Nat.le_refl _) h1
  have h3:=h p hp (L.ol.le_trans _ _ _ hpx (L.ol.meet_l _ _))
  have h4:=L.ol.le_trans _ _ _ hpx (L.ol.meet_r _ _)
  have h5:=L.ol.le_meet _ _ _ h3 h4
  rw [L.ol.meet_neg] at h5
  exact hp.1 (L.ol.le_bot h5)
def atNs (U : List (List Int)) : List Nat := filN U.length (atomB U)
omit L in
theorem atNs_lt {i : Nat} (h : i < (atNs U).length) : (atNs U).getD i 0 < U.length ∧ atomB U ((atNs U).getD i 0) = true := filN_at h
def atF (U : List (List Int)) (h : 0 < U.length) (i : Nat) : Fin U.length := if hi : (atNs U).getD i 0 < U.length then ⟨(atNs U).getD i 0, hi⟩ else ⟨0, h⟩
omit L in
theorem atF_val (h0 : 0 < U.length) {i : Nat} (h : i < (atNs U).length) : (atF U h0 i).1 = (atNs U).getD i 0 := by
  unfold atF; rw [dif_pos (atNs_lt h).1]
theorem atF_atom (h0 : 0 < U.length) {i : Nat} (h : i < (atNs U).length) : L.ol.Atom (atF U h0 i) := by
  rw [← atom_iff L, atF_val h0 h]; exact (atNs_lt h).2
omit L in
theorem atNs_inj {i j : Nat} (hi : i < (atNs U).length) (hj : j < (atNs U).length) (e : (atNs U).getD i 0 = (atNs U).getD j 0) : i = j := by
  have hp:(atNs U).Pairwise (· < ·):=List.Pairwise.filter _ List.pairwise_lt_range
  rw [List.getD_eq_getElem?_getD,List.getD_eq_getElem?_getD,List.getElem?_eq_getElem hi,List.getElem?_eq_getElem hj] at e
  have e2:(atNs U)[i]=(atNs U)[j]:=e
  rcases Nat.lt_trichotomy i j with h|h|h
  · have:=List.pairwise_iff_getElem.1 hp i j hi hj h;omega
  · exact h
  · have:=List.pairwise_iff_getElem.1 hp j i hj hi h;omega
theorem atF_all (h0 : 0 < U.length) {p : Fin U.length} (hp : L.ol.Atom p) : ∃ i, i < (atNs U).length ∧ atF U h0 i = p := by
  have hm:p.1 ∈ atNs U:=List.mem_filter.2 ⟨by simpa using p.2,(atom_iff L p).2 hp⟩
  obtain⟨i,hi,e⟩:=List.getElem_of_mem hm
  refine⟨i,hi,Fin.ext ?_⟩
  rw [atF_val h0 hi,List.getD_eq_getElem?_getD,List.getElem?_eq_getElem hi]
  exact e
def joinT (h0 : 0 < U.length) (t : Nat) : Nat → Fin U.length
  | 0 => L.ol.bot
  | j + 1 => if t.testBit j = true then L.ol.join (joinT h0 t j) (atF U h0 j) else joinT h0 t j
theorem joinT_le (B : L.ol.Boolean) (h0 : 0 < U.length) (t : Nat) {i : Nat} (hi : i < (atNs U).length) : ∀ j, j ≤ (atNs U).length → (L.ol.le (atF U h0 i) (joinT L h0 t j) ↔ i < j ∧ t.testBit i = true) := by
  have hat:=atF_atom L h0 hi
  intro j
  induction j with
  | zero =>
    intro _
    constructor
    · intro h;exact absurd (L.ol.le_bot h) hat.1
    · rintro ⟨h,_⟩;omega
  | succ j ih =>
    intro hj
    have ih:=ih (by omega)
    have haj:=atF_atom L h0 (show j<(atNs U).length by omega)
    have heq : L.ol.le (atF U h0 i) (atF U h0 j) ↔ i = j := by
      constructor
      · intro h
        rcases haj.2 _ h with h|h
        · exact absurd h hat.1
        · have := congrArg Fin.val h
          rw [atF_val h0 hi,atF_val h0 (by omega)] at this
          exact atNs_inj hi (by omega) this
      · intro h;rw [h];exact L.ol.le_refl _
    by_cases ht:t.testBit j=true
    · have e : joinT L h0 t (j + 1) = L.ol.join (joinT L h0 t j) (atF U h0 j) := by show (if t.testBit j = true then _ else _) = _; rw [if_pos ht]
      rw [e,B.atom_prime hat,ih,heq]
      constructor
      · rintro (⟨h1, h2⟩ | h)
        · exact⟨by omega,h2⟩
        · subst h;exact⟨by omega,ht⟩
      · rintro ⟨h1, h2⟩
        by_cases e2:i=j
        · exact .inr e2
        · exact .inl ⟨by omega,h2⟩
    · have e : joinT L h0 t (j + 1) = joinT L h0 t j := by show (if t.testBit j = true then _ else _) = _; rw [if_neg ht]
      rw [e,ih]
      constructor
      · rintro ⟨h1,h2⟩;exact⟨by omega,h2⟩
      · rintro ⟨h1, h2⟩
        refine⟨?_,h2⟩
        by_cases e2:i=j
        · subst e2;exact absurd h2 ht
        · omega
theorem boole_size (B : L.ol.Boolean) : U.length = 2 ^ (atNs U).length := by
  have h0:0<U.length:=L.pos
  have up : U.length ≤ 2 ^ (atNs U).length := by
    refine inj_le _ _ (fun x=>setB (atNs U).length fun j=>leB U ((atNs U).getD j 0) x) (fun i _=>setB_lt _ _) (fun x y hx hy e=>?_)
    have hxy : ∀ p : Fin U.length, L.ol.Atom p → (L.ol.le p ⟨x, hx⟩ ↔ L.ol.le p ⟨y, hy⟩) := fun p hp => by
      obtain⟨i,hi,rfl⟩:=atF_all L h0 hp
      have:=setB_inj e hi
      show leB U (atF U h0 i).1 x=true↔leB U (atF U h0 i).1 y=true
      rw [atF_val h0 hi,this]
    have h1:=atoms_le L B (x:=⟨x,hx⟩) (y:=⟨y,hy⟩) fun p hp h=>(hxy p hp).1 h
    have h2:=atoms_le L B (x:=⟨y,hy⟩) (y:=⟨x,hx⟩) fun p hp h=>(hxy p hp).2 h
    exact congrArg Fin.val (L.ol.le_antisymm _ _ h1 h2)
  have down : 2 ^ (atNs U).length ≤ U.length := by
    refine inj_le _ _ (fun t=>(joinT L h0 t (atNs U).length).1) (fun t _=>(joinT L h0 t _).2) (fun s t hs ht e=>?_)
    have e2:joinT L h0 s (atNs U).length=joinT L h0 t (atNs U).length:=Fin.ext e
    apply Nat.eq_of_testBit_eq
    intro i
    by_cases hi:i<(atNs U).length
    · have h1 := joinT_le L B h0 s hi _ (Nat.le_refl _)
      have h2:=joinT_le L B h0 t hi _ (Nat.le_refl _)
      rw [e2] at h1
      have h3:=h1.symm.trans h2
      rw [Bool.eq_iff_iff]
      exact⟨fun h=>(h3.1 ⟨hi,h⟩).2,fun h=>(h3.2 ⟨hi,h⟩).2⟩
    · rw [Nat.testBit_lt_two_pow (Nat.lt_of_lt_of_le hs (Nat.pow_le_pow_right (by omega) (by omega))),Nat.testBit_lt_two_pow (Nat.lt_of_lt_of_le ht (Nat.pow_le_pow_right (by omega) (by omega)))]
  omega
end
end Go.Proofs.Ytcbjpdaogicibaa.Print
end
section
namespace Go.Proofs.Ytcbjpdaogicibaa.Print
open Go.RowKit Go.Proofs.YtcbjpdaogicibaaW.PrintWords Go.Proofs.YtcbjpdaogicibaaW.PrintLast Go.Proofs.YtcbjpdaogicibaaW.PrintMore
open Oml
theorem drawBooleanOk_ev {l : List Int} (h : Bytes l) : ∃ V M, Ev (fun k => spec_DrawBooleanOk.f k l) (V, M) := by
  obtain⟨b,hb,hbl,ho⟩:=open_ev h
  obtain⟨V,M,q,hd,_,_⟩:=logic_ev hb hbl (p:=0) (by omega) (by omega) 9
  exact⟨V,M,by unfold spec_DrawBooleanOk.f;exact Ev.pbind ho (Ev.bind hd (Ev.now _))⟩
theorem laws_FnBooleanOk.ev (l : List Int) (h : Bytes l) : Ev (fun k => laws_FnBooleanOk.f k l) true := by
  unfold laws_FnBooleanOk.f
  by_cases hl:(l.length:Int)>1048576
  · exact Ev.ite_pos hl (Ev.now _)
  refine Ev.ite_neg hl ?_
  obtain⟨V,M,hd⟩:=drawBooleanOk_ev h
  refine Ev.bind hd (Ev.pbind rfl (Ev.bind (spec_BooleanOk.ev V M) ?_))
  dsimp only
  refine Ev.ite_neg (by simp) (Ev.bind (spec_LogicOk.ev V M) ?_)
  cases hg:logicB V M with
  |false=>exact Ev.ite_neg (by simp) (Ev.ite_neg (by simp) (Ev.bind alive_ok (Ev.now _)))
  |true=>
  have L:=logicB_iff.1 hg
  have hs:=L.small
  have e1:impl_KeepsOk.f V M=some (keepB V M):=by unfold impl_KeepsOk.f;rw [hg,if_pos rfl]
  have e2:impl_BlocksOf.f V M=some (blkL V M):=by unfold impl_BlocksOf.f;rw [hg,if_pos rfl]
  have hB:=boole_blocks L
  have hlen:(blkL V M).length=(blkS V M).length:=by rw [blkL_eq,List.length_map];rfl
  have hat : booB V = true → (((M.length : Nat) : Int) == shl .i64 1 (((filI V.length (atomB V)).length : Nat) : Int)) = true := fun hb => by
    have h1:=boole_size L ((booB_iff L).1 hb)
    have h2:(filI V.length (atomB V)).length=(atNs V).length:=filI_len _ _
    have h3:(atNs V).length≤V.length:=filN_len _ _
    rw [h2,shl_nat (by omega),L.len,beq_iff_eq,← h1]
  rw [if_pos rfl]
  refine Ev.ite_pos rfl (Ev.pbind e1 ?_)
  cases hk:keepB V M with
  | false =>
    have hb:booB V=false:=by rw [hB,hk];rfl
    rw [hb]
    exact Ev.ite_neg (by simp) (Ev.ite_pos rfl (Ev.ite_neg (by simp) (Ev.now _)))
  | true =>
    have hb:booB V=decide ((blkS V M).length=1):=by rw [hB,hk,Bool.true_and]
    refine Ev.ite_pos rfl (Ev.pbind e2 ?_)
    refine Ev.ite_pos ?_ ?_
    · rw [hb,hlen,beq_iff_eq,Bool.eq_iff_iff,decide_eq_true_eq,beq_iff_eq];omega
    · cases hbb : booB V with
      |false=>exact Ev.ite_neg (by simp) (Ev.now _)
      |true=>exact Ev.ite_pos rfl (Ev.bind (impl_AtomsOf.ev L) (by rw [hat hbb];exact Ev.now _))
end Go.Proofs.Ytcbjpdaogicibaa.Print
namespace Go.Proofs.Ytcbjpdaogicibaa.Pure
open Go.RowKit Go.Proofs.Ytcbjpdaogicibaa.Print Go.Proofs.YtcbjpdaogicibaaW.PrintWords Go.Proofs.YtcbjpdaogicibaaW.PrintLast Go.Proofs.YtcbjpdaogicibaaW.PrintMore
theorem FnBooleanOk : laws_FnBooleanOk.Pure := fun l _ _ hw => (laws_FnBooleanOk.ev l fun x hx => by
  have:=hw x hx
  first|exact Go.RowKit.bounds_u8 this|exact Go.ChangeShapes.bounds_u8 this|exact bounds_u8 this|(simp [Lit.wf,IntKind.wf] at this;omega)|(simp [Lit.wf] at this;omega)).rounds
end Go.Proofs.Ytcbjpdaogicibaa.Pure
end
