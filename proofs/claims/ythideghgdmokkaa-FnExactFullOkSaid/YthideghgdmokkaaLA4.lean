/- Part 4 of what is common to several claims of this seat: StateOk, StatesOf, ToldByL, FullOkL. -/
import Derived.Test.YthideghgdmokkaaLA3
import Derived.Below
import Derived.Deep.Draws
import Derived.Deep.AppendLies
import Derived.Maps.AppendAt
import Derived.OwnWalk
import Derived.Laws.BytesArg
import Derived.Laws.MakeOwn
import Derived.Laws.OwnMore
import Derived.Deep.OwnRows
import Derived.Tactics
import Derived.Lib.ConvBytes
import Derived.Laws.Slices
import Derived.WalkKit
import Derived.KernelRfl
import Derived.RowKit3
import Derived.Deep.LoopGhost
import Derived.Deep.QuietTactic
import Derived.BigQuiet
import Derived.WideLaws
import Derived.Deep.DeepCutAuto
import Derived.Deep.CutBlock
import Derived.Deep.RegionHeld3
import Derived.Laws.Rows
import Derived.Lib.AppendStr
import Derived.ArgAppend
import Derived.Laws.IdiomCopy
import Derived.RowKit
import Derived.OrdersHeld
import Derived.Laws.BitsLemmas
import Derived.Test.YthideghgdmokkaaProg
import Derived.Deep.Matrix
import Derived.Lib.SmallJoins
import Derived.Laws.Bits64b
section
namespace Go.Proofs.Ythideghgdmokkaa.Print
open Go.RowKit Go.Proofs.YthideghgdmokkaaW.PrintWords Go.Proofs.YthideghgdmokkaaW.PrintLast Go.Proofs.YthideghgdmokkaaW.PrintMore
set_option linter.unusedVariables false
set_option linter.unusedSimpArgs false
open Oml Go.ChangeShapes Go.WideShapes Go.ChangeAt Go.Deep Go.Joins
theorem ints_in {H : Type} {enc : TypeId × Value → H} {W : World} {base fuel : Nat} {held : Bool} {v : Value} {x : DataW H × List MemPlace} (h : DataW.trod enc Try.prog W base (fun _ => true) held fuel 23 [v] = some x) :
    ∃ A c N, v = .slice A N.length c ∧ N.length ≤ c ∧ N.length ≤ 9223372036854775807 ∧ Kd.C (Kd.int .i64) W A N.length N := by
  rcases open_ints Try.underlying23 Try.underlying3 (by kernel_rfl) h with ⟨hcs, _⟩ | ⟨a, l, c, zs, hcs, _, hl, hm, hz, _, hcell, _⟩
  · simp at hcs
    exact ⟨none, 0, [], hcs, Nat.le_refl _, Nat.zero_le _, rfl, Nat.zero_le _, fun h => absurd h (Nat.not_lt_zero _)⟩
  · simp at hcs hz
    have hl' : (zs.take l).length = l := by rw [List.length_take]; omega
    have hmax : c ≤ 9223372036854775807 := hm
    refine ⟨some a, c, zs.take l, by rw [hl']; exact hcs, by omega, by omega, by rw [hl'], by omega, fun _ => ⟨a, rfl, fun j p hp => ?_⟩⟩
    have hj : j < l := by
      have := (List.getElem?_eq_some_iff.1 hp).1
      rw [hl'] at this; exact this
    refine ⟨[.int .i64 p], rfl, rfl, fun i u hu => ?_⟩
    rcases i with _ | i
    · have hu' : Value.int .i64 p = u := by simpa using hu
      have hc := hcell j (by omega)
      have hp' : zs.getD j 0 = p := by
        rw [List.getElem?_take, if_pos hj] at hp
        rw [List.getD_eq_getElem?_getD, hp]; rfl
      show W.cell? (a.add (j * 1 + 0)) = some u
      rw [Nat.mul_one, Nat.add_zero, hc, hp', hu']
    · simp at hu
theorem rows_in {H : Type} {enc : TypeId × Value → H} {W : World} {base fuel : Nat} {held : Bool} {v : Value} {x : DataW H × List MemPlace} (h : DataW.trod enc Try.prog W base (fun _ => true) held fuel 22 [v] = some x) :
    ∃ A c U, v = .slice A U.length c ∧ U.length ≤ c ∧ U.length ≤ 9223372036854775807 ∧ (∀ r ∈ U, r.length ≤ 9223372036854775807) ∧ Kd.C (Kd.slice 3 (Kd.int .i64)) W A U.length U := by
  rcases open_int_rows Try.underlying22 Try.underlying23 Try.underlying3 (by kernel_rfl) (by kernel_rfl) h with ⟨hcs, _⟩ | ⟨a, l, c, A, L, C, Z, hcs, _, hl, hm, _, hr⟩
  · simp at hcs
    exact ⟨none, 0, [], hcs, Nat.le_refl _, Nat.zero_le _, by simp, rfl, Nat.zero_le _, fun h => absurd h (Nat.not_lt_zero _)⟩
  · simp at hcs
    have hmax : c ≤ 9223372036854775807 := hm
    have hlr : ∀ r, r < c → ((Z r).take (L r)).length = L r := fun r h => by
      obtain ⟨_, h1, _, h2, _⟩ := hr r h
      rw [List.length_take]; omega
    have hU : ((List.range l).map fun r => (Z r).take (L r)).length = l := by simp
    refine ⟨some a, c, (List.range l).map fun r => (Z r).take (L r), by rw [hU]; exact hcs, by omega, by omega, fun r hr' => ?_, by rw [hU], by omega, fun _ => ⟨a, rfl, fun j p hp => ?_⟩⟩
    · obtain ⟨i, hi, rfl⟩ := List.mem_map.1 hr'
      have hi' : i < c := by have := List.mem_range.1 hi; omega
      rw [hlr i hi']
      have h1 : L i ≤ C i := (hr i hi').2.1
      have h2 : C i ≤ 9223372036854775807 := (hr i hi').2.2.1
      omega
    · have hj : j < l := by
        have := (List.getElem?_eq_some_iff.1 hp).1
        rw [hU] at this; exact this
      have hp' : p = (Z j).take (L j) := by
        rw [List.getElem?_map, List.getElem?_range hj] at hp
        simpa using hp.symm
      obtain ⟨hcell, h1, h2, h3, h4, h5, h6⟩ := hr j (by omega)
      have h2' : C j ≤ 9223372036854775807 := h2
      have hlj := hlr j (by omega)
      refine ⟨[.slice (A j) p.length (C j)], rfl, ⟨A j, C j, rfl, by rw [hp', hlj]; exact h1, rfl, by rw [hp', hlj]; omega, fun hpos => ?_⟩, fun i u hu => ?_⟩
      · rw [hp', hlj] at hpos
        cases hA : A j with
        | none => have := h5 hA; omega
        | some a' =>
          refine ⟨a', rfl, fun i q hq => ?_⟩
          have hi : i < L j := by
            have := (List.getElem?_eq_some_iff.1 hq).1
            rw [hp', hlj] at this; exact this
          refine ⟨[.int .i64 q], rfl, rfl, fun i' u hu => ?_⟩
          rcases i' with _ | i'
          · have hu' : Value.int .i64 q = u := by simpa using hu
            have hc := (h6 a' hA).2 i (by omega)
            have hq' : (Z j).getD i 0 = q := by
              rw [hp', List.getElem?_take, if_pos hi] at hq
              rw [List.getD_eq_getElem?_getD, hq]; rfl
            show W.cell? (a'.add (i * 1 + 0)) = some u
            rw [Nat.mul_one, Nat.add_zero, hc, hq', hu']
          · simp at hu
      · rcases i with _ | i
        · have hu' : Value.slice (A j) p.length (C j) = u := by simpa using hu
          show W.cell? (a.add (j * 1 + 0)) = some u
          rw [Nat.mul_one, Nat.add_zero, hcell, ← hu', hp', hlj]
        · simp at hu
set_option maxRecDepth 100000 in
theorem logic_in' {H : Type} {enc : TypeId × Value → H} {W : World} {base : Nat} {held : Bool} {r : Reach} {b0 : Nat} {v : Value} {d : DataW H} {ps : List MemPlace} (hv : Value.okWide Try.prog W r b0 25 v)
    (h : DataW.Trod enc Try.prog W base (fun _ => true) held 25 v d ps) :
    ∃ A0 c0 U A1 c1 N, v = .agg #[.slice A0 U.length c0, .slice A1 N.length c1] ∧ U.length ≤ c0 ∧ N.length ≤ c1 ∧ FitL U N ∧ Kd.C (Kd.slice 3 (Kd.int .i64)) W A0 U.length U ∧ Kd.C (Kd.int .i64) W A1 N.length N := by
  obtain ⟨v0, v1, y0, y1, n, rfl, rfl, rfl, h0, h1⟩ := open_agg2 Try.underlying25 (by kernel_rfl) (by kernel_rfl) hv h
  obtain ⟨A0, c0, U, rfl, k0, k1, k2, k3⟩ := rows_in h0
  obtain ⟨A1, c1, N, rfl, l0, l1, l2⟩ := ints_in h1
  exact ⟨A0, c0, U, A1, c1, N, rfl, k0, l0, ⟨k1, k2, l1⟩, k3, l2⟩
end Go.Proofs.Ythideghgdmokkaa.Print
end
section
namespace Go.Proofs.Ythideghgdmokkaa.Print
open Go.RowKit Go.Proofs.YthideghgdmokkaaW.PrintWords Go.Proofs.YthideghgdmokkaaW.PrintLast Go.Proofs.YthideghgdmokkaaW.PrintMore
set_option linter.unusedVariables false
set_option linter.unusedSimpArgs false
open Oml
def In (U : List (List Int)) (a : Int) : Prop := 0 ≤ a ∧ a < (U.length : Int)
def inR (n : Nat) (a : Int) : Bool := decide (0 ≤ a) && decide (a < (n : Int))
theorem inR_iff {U : List (List Int)} {a : Int} : inR U.length a = true ↔ In U a := by simp [inR, In]
def andI (U : List (List Int)) (a b : Int) : Int := mI U a.toNat b.toNat
def orI (U : List (List Int)) (a b : Int) : Int := jI U a.toNat b.toNat
def notI (N : List Int) (a : Int) : Int := at1 N a.toNat
def leI (U : List (List Int)) (a b : Int) : Bool := leB U a.toNat b.toNat
def noI (U : List (List Int)) : Int := optI (leastO U)
def yesI (U : List (List Int)) (N : List Int) : Int := notI N (noI U)
section
variable {U : List (List Int)} {N : List Int} (L : Logic U N)
include L
theorem _root_.Oml.Logic.in_or {a b : Int} (ha : In U a) (hb : In U b) : In U (orI U a b) := by
  obtain ⟨m, hm⟩ := Option.isSome_iff_exists.1 (L.joins a.toNat b.toNat (by have := ha.1; have := ha.2; omega) (by have := hb.1; have := hb.2; omega))
  have := (findN_some hm).1
  unfold In orI jI; rw [hm]; simp only [optI]; omega
theorem _root_.Oml.Logic.in_not {a : Int} (ha : In U a) : In U (notI N a) := L.ran a.toNat (by have := ha.1; have := ha.2; omega)
theorem _root_.Oml.Logic.in_no : In U (noI U) := by
  obtain ⟨m, hm⟩ := L.least_some
  have := (findN_some hm).1
  unfold In noI; rw [hm]; simp only [optI]; omega
theorem _root_.Oml.Logic.in_yes : In U (yesI U N) := L.in_not L.in_no
theorem _root_.Oml.Logic.le_val {a b : Int} (ha : In U a) (hb : In U b) : at2 U a.toNat b.toNat = if leI U a b = true then 1 else 0 :=
  L.toOrder.val (by have := ha.1; have := ha.2; omega) (by have := hb.1; have := hb.2; omega)
end
structure Adr where
  aU : Addr
  aA : Addr
  aO : Addr
  aN : Addr
  cU : Nat
  cA : Nat
  cO : Nat
  cN : Nat
  rU : Nat → Addr
  rA : Nat → Addr
  rO : Nat → Addr
  qU : Nat → Nat
  qA : Nat → Nat
  qO : Nat → Nat
structure View (W : World) (g : Nat) (U : List (List Int)) (N : List Int) (v : Adr) : Prop where
  blk : W.heap[g]? = some (.cells #[.slice (some v.aU) U.length v.cU, .slice (some v.aA) U.length v.cA, .slice (some v.aO) U.length v.cO, .slice (some v.aN) U.length v.cN, .int .i64 (noI U), .int .i64 (yesI U N)] 81 (0, 0))
  len : N.length = U.length
  u : ∀ a, In U a → W.cell? (v.aU.add a.toNat) = some (.slice (some (v.rU a.toNat)) U.length (v.qU a.toNat))
  u2 : ∀ a b, In U a → In U b → W.cell? ((v.rU a.toNat).add b.toNat) = some (.int .i64 (at2 U a.toNat b.toNat))
  m : ∀ a, In U a → W.cell? (v.aA.add a.toNat) = some (.slice (some (v.rA a.toNat)) U.length (v.qA a.toNat))
  m2 : ∀ a b, In U a → In U b → W.cell? ((v.rA a.toNat).add b.toNat) = some (.int .i64 (andI U a b))
  j : ∀ a, In U a → W.cell? (v.aO.add a.toNat) = some (.slice (some (v.rO a.toNat)) U.length (v.qO a.toNat))
  j2 : ∀ a b, In U a → In U b → W.cell? ((v.rO a.toNat).add b.toNat) = some (.int .i64 (orI U a b))
  n : ∀ a, In U a → W.cell? (v.aN.add a.toNat) = some (.int .i64 (notI N a))
  capU : U.length ≤ v.cU
  capR : ∀ a, In U a → U.length ≤ v.qU a.toNat
namespace View
section
variable {W W1 : World} {g : Nat} {U : List (List Int)} {N : List Int} {v : Adr} (h : View W g U N v)
include h
theorem below (hb : Below W.heap.size W W1) : View W1 g U N v where
  blk := blk_below h.blk hb
  len := h.len
  u := fun a ha => cell_up (h.u a ha) hb rfl
  u2 := fun a b ha hb' => cell_up (h.u2 a b ha hb') hb rfl
  m := fun a ha => cell_up (h.m a ha) hb rfl
  m2 := fun a b ha hb' => cell_up (h.m2 a b ha hb') hb rfl
  j := fun a ha => cell_up (h.j a ha) hb rfl
  j2 := fun a b ha hb' => cell_up (h.j2 a b ha hb') hb rfl
  n := fun a ha => cell_up (h.n a ha) hb rfl
  capU := h.capU
  capR := h.capR
theorem f0 : W.cell? ⟨g, 0, none⟩ = some (.slice (some v.aU) U.length v.cU) := (blk_cell h.blk 0).trans rfl
theorem f1 : W.cell? ⟨g, 1, none⟩ = some (.slice (some v.aA) U.length v.cA) := (blk_cell h.blk 1).trans rfl
theorem f2 : W.cell? ⟨g, 2, none⟩ = some (.slice (some v.aO) U.length v.cO) := (blk_cell h.blk 2).trans rfl
theorem f3 : W.cell? ⟨g, 3, none⟩ = some (.slice (some v.aN) U.length v.cN) := (blk_cell h.blk 3).trans rfl
theorem f5 : W.cell? ⟨g, 5, none⟩ = some (.int .i64 (yesI U N)) := (blk_cell h.blk 5).trans rfl
theorem drewN (n : Nat) : View (W.drewN n) g U N v := h.below (pw_below_drewN (Below.refl _ _) n)
theorem alloc (o : Obj) : View (W.alloc o) g U N v := h.below (below_alloc (Below.refl _ _) o)
end
end View
theorem rows_adr {W : World} {A : Option Addr} {n m : Nat} {xs : List (List Int)} (h : Kd.C (Kd.slice 3 (Kd.int .i64)) W A m xs) (hm : m = n) (hn : 0 < n) (hr : ∀ a, a < n → (xs.getD a []).length = n) :
    ∃ (ad : Addr) (r : Nat → Addr) (q : Nat → Nat), A = some ad ∧ (∀ a, a < n → W.cell? (ad.add a) = some (.slice (some (r a)) n (q a))) ∧ (∀ a b, a < n → b < n → W.cell? ((r a).add b) = some (.int .i64 (at2 xs a b))) ∧ ∀ a, a < n → n ≤ q a := by
  subst hm
  obtain ⟨ad, _, _, e, _⟩ := mat_cell h hr 0 0 (by omega) (by omega) (by omega) (by omega)
  have key : ∀ a : Nat, ∃ (r : Addr) (q : Nat), a < m → W.cell? (ad.add a) = some (.slice (some r) m q) ∧ (∀ b, b < m → W.cell? (r.add b) = some (.int .i64 (at2 xs a b))) ∧ m ≤ q := by
    intro a
    by_cases ha : a < m
    · obtain ⟨ad1, Ar, cr, e1, hc, hl, hk⟩ := rows_cell h a (by omega) (by omega)
      rw [e] at e1
      injection e1 with e1
      subst e1
      simp only [Int.toNat_natCast] at hc hl hk
      rw [hr a ha] at hc hl hk
      obtain ⟨r, e2, _⟩ := ints_cell hk 0 (by omega) (by omega)
      subst e2
      refine ⟨r, cr, fun _ => ⟨hc, fun b hb => ?_, hl⟩⟩
      obtain ⟨r', e3, hc3⟩ := ints_cell hk b (by omega) (by omega)
      cases e3
      simpa [at2, at1] using hc3
    · exact ⟨ad, 0, fun h => absurd h ha⟩
  refine ⟨ad, fun a => Classical.choose (key a), fun a => Classical.choose (Classical.choose_spec (key a)), e, fun a ha => ?_, fun a b ha hb => ?_, fun a ha => ?_⟩
  · exact (Classical.choose_spec (Classical.choose_spec (key a)) ha).1
  · exact (Classical.choose_spec (Classical.choose_spec (key a)) ha).2.1 b hb
  · exact (Classical.choose_spec (Classical.choose_spec (key a)) ha).2.2
theorem view_of {W : World} {g : Nat} {U : List (List Int)} {N : List Int} (L : Logic U N) (h : AlgOf W g U N) : ∃ v, View W g U N v := by
  obtain ⟨A0, c0, A1, c1, A2, c2, A3, c3, h1, hc, k0, k1, k2, k3⟩ := h
  have hn : 0 < U.length := L.pos
  rw [tabI_length] at h1 hc k1 k2
  rw [tabI_length, L.len] at h1
  rw [tabI_length, L.len] at hc
  rw [L.len] at k3
  obtain ⟨aU, rU, qU, eU, u1, u2, u3⟩ := rows_adr k0 rfl hn L.row
  obtain ⟨aA, rA, qA, eA, m1, m2, m3⟩ := rows_adr k1 rfl hn (tabI_row _ _)
  obtain ⟨aO, rO, qO, eO, j1, j2, j3⟩ := rows_adr k2 rfl hn (tabI_row _ _)
  obtain ⟨aN, eN, _⟩ := ints_cell k3 0 (by omega) (by omega)
  subst eU eA eO eN
  have nat : ∀ a, In U a → a.toNat < U.length := fun a ha => by have := ha.1; have := ha.2; omega
  refine ⟨⟨aU, aA, aO, aN, c0, c1, c2, c3, rU, rA, rO, qU, qA, qO⟩, { blk := h1, len := L.len, u := fun a ha => u1 _ (nat a ha), u2 := fun a b ha hb => u2 _ _ (nat a ha) (nat b hb), m := fun a ha => m1 _ (nat a ha), m2 := fun a b ha hb => ?_, j := fun a ha => j1 _ (nat a ha), j2 := fun a b ha hb => ?_, n := fun a ha => ?_, capU := hc.1, capR := fun a ha => u3 _ (nat a ha) }⟩
  · rw [m2 _ _ (nat a ha) (nat b hb), tabI_at _ _ _ _ (nat a ha) (nat b hb)]; rfl
  · rw [j2 _ _ (nat a ha) (nat b hb), tabI_at _ _ _ _ (nat a ha) (nat b hb)]; rfl
  · obtain ⟨ad, e, hcell⟩ := ints_cell k3 a ha.1 ha.2
    cases e
    exact hcell
theorem told_y (k : Nat) (A0 : Option Addr) (c0 : Nat) (U : List (List Int)) (A1 : Option Addr) (c1 : Nat) (N : List Int) (w : World)
    (hr0 : Kd.C (Kd.slice 3 (Kd.int .i64)) w A0 U.length U) (hc0 : U.length ≤ c0) (hr1 : Kd.C (Kd.int .i64) w A1 N.length N) (hc1 : N.length ≤ c1) (hF : ToldFacts k U) (hL : logicB U N = true) :
    Calls Try.prog 57 #[.agg #[.slice A0 U.length c0, .slice A1 N.length c1]] w fun e w' => ∃ g v, e = .returned (.pointer (some ⟨g, 0, none⟩)) ∧ View w' g U N v ∧ w.heap.size ≤ g ∧ Below w.heap.size w w' := by
  refine (told_calls k A0 c0 U A1 c1 N w hr0 hc0 hr1 hc1 hF).mono fun e w' h => ?_
  obtain ⟨hb, h | h⟩ := h
  · obtain ⟨_, g, he, hg, ha⟩ := h
    obtain ⟨v, hv⟩ := view_of (logicB_iff.1 hL) ha
    exact ⟨g, v, he, hv, hg, hb⟩
  · rw [hL] at h; exact absurd h.1 (by simp)
theorem told_n (k : Nat) (A0 : Option Addr) (c0 : Nat) (U : List (List Int)) (A1 : Option Addr) (c1 : Nat) (N : List Int) (w : World)
    (hr0 : Kd.C (Kd.slice 3 (Kd.int .i64)) w A0 U.length U) (hc0 : U.length ≤ c0) (hr1 : Kd.C (Kd.int .i64) w A1 N.length N) (hc1 : N.length ≤ c1) (hF : ToldFacts k U) (hL : logicB U N = false) :
    Calls Try.prog 57 #[.agg #[.slice A0 U.length c0, .slice A1 N.length c1]] w fun e w' => e = .returned (.pointer none) ∧ Below w.heap.size w w' := by
  refine (told_calls k A0 c0 U A1 c1 N w hr0 hc0 hr1 hc1 hF).mono fun e w' h => ?_
  obtain ⟨hb, h | h⟩ := h
  · rw [hL] at h; exact absurd h.1 (by simp)
  · exact ⟨h.2, hb⟩
end Go.Proofs.Ythideghgdmokkaa.Print
end
section
namespace Go.Proofs.Ythideghgdmokkaa.Print
open Go.RowKit Go.Proofs.YthideghgdmokkaaW.PrintWords Go.Proofs.YthideghgdmokkaaW.PrintLast Go.Proofs.YthideghgdmokkaaW.PrintMore
set_option linter.unusedVariables false
set_option linter.unusedSimpArgs false
open Oml
theorem goesV_ {P : Program} {ops : Array Oper} {Q : Exit → Act → World → Prop} {rest : List Oper} {oi : Oper} {a : Act} {w : World} (N : Option Tmp) (hd : oi.dst = N) (hg : oi.guard = none) {f : FuncId} {fn : Func} {x : Operand} {xo : Array Operand} {ts : Array TypeId} {cs : Array Value}
    (hf : P.funcs[f]? = some fn) (hname : (fn.name == "runtime.NumGoroutine") = false) (hb : fn.body.isSome = true) (args : Array Value)
    (hop : oi.op = .call { callee := .value x, args := xo, argTypes := ts }) (hx : a.eval x = .func (.func f) #[] cs) (hargs : xo.map a.eval = args)
    (h : Calls P f (args ++ cs) w fun e w' => ∃ v, e = .returned v ∧ wpList P ops Q rest (a.put N v) w') : wpList P ops Q (oi :: rest) a w := by
  refine wpList_plain hg fun K hK => ?_
  have he := enters_ hf hname hb (args ++ cs) w
  have hrun : (execOp a.eval oi).run P w = .ok (.enter f (args ++ cs)) w := by
    unfold execOp
    simp [hop, resolve, Deferred.ofValue, invoke, hx, hargs, he]
  unfold Oper.wp
  rw [hrun, Oper.upon_enter]
  refine h.mono fun e w'' hh => ?_
  obtain ⟨v, rfl, hk⟩ := hh
  subst hd
  exact hK _ _ hk
set_option maxHeartbeats 1000000 in
set_option maxRecDepth 100000 in
theorem every_calls (g : Nat) (U : List (List Int)) (N : List Int) (v : Adr) (w : World) (hs : U.length ≤ 12) (fv : Nat) (fn : Func) (cs : Array Value) (hf : Try.prog.funcs[fv]? = some fn) (hname : (fn.name == "runtime.NumGoroutine") = false) (hb : fn.body.isSome = true)
    (p : Nat → Nat → Bool) (J : Nat → World → Prop) (hV : ∀ i w', J i w' → View w' g U N v) (hD : ∀ i w' n, J i w' → J i (w'.drewN n)) (h0 : J 0 w)
    (step : ∀ a b : Nat, a < U.length → b < U.length → ∀ w', J (a * U.length + b) w' → Calls Try.prog fv (#[.int .i64 a, .int .i64 b] ++ cs) w' fun e w'' => e = .returned (.bool (p a b)) ∧ J (a * U.length + b + 1) w'') :
    Calls Try.prog 65 #[.pointer (some ⟨g, 0, none⟩), .func (.func fv) #[] cs] w fun e w' =>
      e = .returned (.bool (allN U.length fun a => allN U.length fun b => p a b)) ∧ ∃ i, J i w' ∧ ((allN U.length fun a => allN U.length fun b => p a b) = true → i = U.length * U.length) := by
  obtain ⟨r, hr⟩ : ∃ r, r = allN U.length fun a => allN U.length fun b => p a b := ⟨_, rfl⟩
  rw [← hr]
  have hu70 := Try.underlying81
  have HF := Aside0.mk hf
  have HNM := Aside0.mk hname
  have HBD := Aside0.mk hb
  have HV := Aside0.mk hV
  have HD := Aside0.mk hD
  have HJ0 := Aside0.mk h0
  have HST := Aside0.mk step
  have HR := Aside0.mk hr
  have hf0 := (hV 0 w h0).f0
  clear hf hname hb hV hD h0 step hr
  go_enter Try.func65, Try.ntmps65
  go_wp2_with fail
  go_loopg [12] (U.length + 1) (fun kq v12 W => ∃ i s : Nat, v12 = .int .i64 i ∧ Aside0 (i + kq = U.length + 1) ∧ Aside0 (i ≤ U.length) ∧ Aside0 (s = i * U.length) ∧ Aside0 (∀ a, a < i → ∀ b, b < U.length → p a b = true) ∧ Aside0 (J s W))
  case atStart => exact ⟨0, 0, rfl, ⟨by omega⟩, ⟨by omega⟩, ⟨by simp⟩, ⟨fun j hj => absurd hj (by omega)⟩, ⟨by first | exact HJ0.out | exact HD.out _ _ _ HJ0.out⟩⟩
  case round =>
    clear hf0
    obtain ⟨i, s, rfl, HK, HK2, HSI, HS, HJ⟩ := hrel
    have hf0 := (HV.out _ _ HJ.out).f0
    cases gk with
    | zero => exact absurd HK.out (by have := HK2.out; omega)
    | succ kn =>
    by_cases hlt : i < U.length
    · have hlt' : decide (i < U.length) = true := decide_eq_true hlt
      have HLT := Aside0.mk hlt
      clear hlt
      go_wp2_with fail
      go_loopg [20] (U.length + 1) (fun kq v20 W => ∃ j : Nat, v20 = .int .i64 j ∧ Aside0 (j + kq = U.length + 1) ∧ Aside0 (j ≤ U.length) ∧ Aside0 (∀ b, b < j → p i b = true) ∧ Aside0 (J (s + j) W))
      case atStart => exact ⟨0, rfl, ⟨by omega⟩, ⟨by omega⟩, ⟨fun j hj => absurd hj (by omega)⟩, ⟨by first | exact HJ.out | exact HD.out _ _ _ HJ.out⟩⟩
      case round =>
        clear hf0
        obtain ⟨j, rfl, HKj, HKj2, HSj, HJj⟩ := hrel
        cases gk with
        | zero => exact absurd HKj.out (by have := HKj2.out; omega)
        | succ kj =>
        by_cases hlj : j < U.length
        · have hlj' : decide (j < U.length) = true := decide_eq_true hlj
          have HLJ := Aside0.mk hlj
          clear hlj
          cases hp : p i j with
          | true =>
            have HP := Aside0.mk hp
            clear hp
            go_wp2_with (refine goesV_ (some 26) rfl rfl HF.out HNM.out HBD.out #[.int .i64 i, .int .i64 j] rfl rfl (by (try simp only [List.map_toArray, List.map_cons, List.map_nil]); first | done | rfl) ?_; refine (HST.out i j HLT.out HLJ.out _ ?sJ).mono ?_; (case sJ => first | (rw [← HSI.out]; exact HJj.out) | (rw [← HSI.out]; exact HD.out _ _ _ HJj.out)); rintro e w1 ⟨he, hj⟩; rw [HP.out] at he; subst he; refine ⟨_, rfl, ?_⟩; have HJ1 := Aside0.mk hj; clear hj)
            go_roundg kj
            case measure => omega
            case rel => exact ⟨j + 1, by first | go_num | (rw [wrap_small (by omega) (by have := HLJ.out; omega)]; go_num), ⟨by have := HKj.out; omega⟩, ⟨by have := HLJ.out; omega⟩, ⟨fun b hb => by
              rcases Nat.lt_or_ge b j with h | h
              · exact HSj.out b h
              · obtain rfl : b = j := by omega
                exact HP.out⟩, ⟨by have h1 := HJ1.out; rw [← HSI.out, Nat.add_assoc] at h1; first | exact h1 | exact HD.out _ _ _ h1⟩⟩
          | false =>
            have HP := Aside0.mk hp
            clear hp
            have hrf : r = false := by
              rw [HR.out]
              exact allN_false.2 ⟨i, HLT.out, allN_false.2 ⟨j, HLJ.out, HP.out⟩⟩
            subst hrf
            go_wp2_with (refine goesV_ (some 26) rfl rfl HF.out HNM.out HBD.out #[.int .i64 i, .int .i64 j] rfl rfl (by (try simp only [List.map_toArray, List.map_cons, List.map_nil]); first | done | rfl) ?_; refine (HST.out i j HLT.out HLJ.out _ ?sJ).mono ?_; (case sJ => first | (rw [← HSI.out]; exact HJj.out) | (rw [← HSI.out]; exact HD.out _ _ _ HJj.out)); rintro e w1 ⟨he, hj⟩; rw [HP.out] at he; subst he; refine ⟨_, rfl, ?_⟩; have HJ1 := Aside0.mk hj; clear hj)
            go_ret
            exact ⟨rfl, _, by first | exact HJ1.out | exact HD.out _ _ _ HJ1.out, fun h => by cases h⟩
        · have hlj' : decide (j < U.length) = false := decide_eq_false hlj
          obtain rfl : j = U.length := by have := HKj2.out; omega
          clear hlj
          go_wp2_with fail
          go_roundg kn
          case measure => omega
          case rel => exact ⟨i + 1, s + U.length, by first | go_num | (rw [wrap_small (by omega) (by have := HLT.out; omega)]; go_num), ⟨by have := HK.out; omega⟩, ⟨by have := HLT.out; omega⟩, ⟨by rw [Nat.succ_mul, HSI.out]⟩, ⟨fun a ha => by
            rcases Nat.lt_or_ge a i with h | h
            · exact HS.out a h
            · obtain rfl : a = i := by omega
              exact HSj.out⟩, ⟨by first | exact HJj.out | exact HD.out _ _ _ HJj.out⟩⟩
    · have hlt' : decide (i < U.length) = false := decide_eq_false hlt
      obtain rfl : i = U.length := by have := HK2.out; omega
      have hrt : r = true := by
        rw [HR.out, allN_iff]
        intro a ha
        exact allN_iff.2 (HS.out a ha)
      subst hrt
      clear hlt
      go_wp2_with fail
      go_ret
      have hj := HJ.out
      rw [HSI.out] at hj
      exact ⟨rfl, by first | exact hj | exact HD.out _ _ _ hj⟩
theorem every_pure (g : Nat) (U : List (List Int)) (N : List Int) (v : Adr) (w : World) (hs : U.length ≤ 12) (hV : View w g U N v) (fv : Nat) (fn : Func) (cs : Array Value) (hf : Try.prog.funcs[fv]? = some fn) (hname : (fn.name == "runtime.NumGoroutine") = false) (hb : fn.body.isSome = true)
    (p : Nat → Nat → Bool) (step : ∀ a b : Nat, a < U.length → b < U.length → ∀ W, Below w.heap.size w W → Calls Try.prog fv (#[.int .i64 a, .int .i64 b] ++ cs) W fun e w'' => e = .returned (.bool (p a b)) ∧ Below W.heap.size W w'') :
    Calls Try.prog 65 #[.pointer (some ⟨g, 0, none⟩), .func (.func fv) #[] cs] w fun e w' => e = .returned (.bool (allN U.length fun a => allN U.length fun b => p a b)) ∧ Below w.heap.size w w' := by
  refine (every_calls g U N v w hs fv fn cs hf hname hb p (fun _ W => Below w.heap.size w W) (fun _ W h => hV.below h) (fun _ W n h => pw_below_drewN h n) (Below.refl _ _) (fun a b ha hb' W hW => ?_)).mono ?_
  · refine (step a b ha hb' W hW).mono ?_
    rintro e w2 ⟨rfl, h2⟩
    exact ⟨rfl, below_step hW h2⟩
  · rintro e w2 ⟨rfl, i, h2, _⟩
    exact ⟨rfl, h2⟩
def filI (n : Nat) (p : Nat → Bool) : List Int := ((List.range n).filter p).map fun (a : Nat) => (a : Int)
theorem filI_zero (p : Nat → Bool) : filI 0 p = [] := rfl
theorem filI_succ (n : Nat) (p : Nat → Bool) : filI (n + 1) p = if p n = true then filI n p ++ [(n : Int)] else filI n p := by
  unfold filI
  rw [List.range_succ, List.filter_append, List.map_append]
  cases h : p n <;> simp [h]
theorem filI_length (n : Nat) (p : Nat → Bool) : (filI n p).length ≤ n := by
  unfold filI
  rw [List.length_map]
  exact Nat.le_trans (List.length_filter_le _ _) (by simp)
end Go.Proofs.Ythideghgdmokkaa.Print
end
section
namespace Go.Proofs.Ythideghgdmokkaa.Print
open Go.RowKit Go.Proofs.YthideghgdmokkaaW.PrintWords Go.Proofs.YthideghgdmokkaaW.PrintLast Go.Proofs.YthideghgdmokkaaW.PrintMore
set_option linter.unusedVariables false
set_option linter.unusedSimpArgs false
open Oml
theorem ofInt_nat (a : Nat) (ha : a < 18446744073709551616) : (BitVec.ofInt 64 (a : Int)).toNat = a := by
  rw [BitVec.ofInt_natCast, BitVec.toNat_ofNat]; exact Nat.mod_eq_of_lt (by omega)
theorem band_nat (a b : Nat) (ha : a < 4611686018427387904) (hb : b < 4611686018427387904) : Go.bits .and .i64 (a : Int) (b : Int) = ((a &&& b : Nat) : Int) := by
  have hx : a &&& b < 2 ^ 62 := Nat.and_lt_two_pow _ (by omega)
  show IntKind.i64.wrap ((BitVec.ofInt 64 (a : Int) &&& BitVec.ofInt 64 (b : Int)).toNat : Int) = _
  rw [BitVec.toNat_and, ofInt_nat a (by omega), ofInt_nat b (by omega), i64_w]
  unfold wrap64; omega
theorem two_pow_le {i : Nat} (h : i ≤ 40) : (2 : Nat) ^ i ≤ 1099511627776 := Nat.pow_le_pow_right (by omega) h
theorem cast_pow (i : Nat) : (2 : Int) ^ i = ((2 ^ i : Nat) : Int) := by rw [Int.natCast_pow]; rfl
theorem shl_nat {i : Nat} (h : i ≤ 40) : shl .i64 1 (i : Int) = ((2 ^ i : Nat) : Int) := by
  unfold shl
  have h2 := two_pow_le h
  rw [Int.toNat_natCast, Nat.min_eq_left (by show i ≤ 64; omega), Int.one_mul, cast_pow, i64_w]
  generalize 2 ^ i = x at h2 ⊢
  unfold wrap64; omega
theorem wshl_nat {i : Nat} (h : i ≤ 40) : IntKind.i64.wrap (2 ^ i) = ((2 ^ i : Nat) : Int) := by
  have := shl_nat h
  unfold shl at this
  rwa [Int.toNat_natCast, Nat.min_eq_left (by show i ≤ 64; omega), Int.one_mul] at this
theorem shr_nat (s : Nat) {i : Nat} (h : i ≤ 64) : shr .i64 (s : Int) (i : Int) = ((s / 2 ^ i : Nat) : Int) := by
  unfold shr
  rw [Int.toNat_natCast, Nat.min_eq_left (by show i ≤ 64; omega), cast_pow]
  rfl
theorem testBit_div (s i : Nat) : s.testBit i = decide (s / 2 ^ i % 2 = 1) := Nat.testBit_eq_decide_div_mod_eq
theorem smod_nat (s : Nat) {i : Nat} (h : i ≤ 64) : Int.tmod (shr .i64 (s : Int) (i : Int)) 2 = if s.testBit i = true then 1 else 0 := by
  rw [shr_nat s h, testBit_div]
  have h1 : Int.tmod ((s / 2 ^ i : Nat) : Int) ((2 : Nat) : Int) = ((s / 2 ^ i % 2 : Nat) : Int) := by first | exact (Int.ofNat_tmod _ 2).symm | rfl
  rw [show ((2 : Nat) : Int) = 2 from rfl] at h1
  rw [h1]
  by_cases e : s / 2 ^ i % 2 = 1
  · rw [e]; simp
  · have : s / 2 ^ i % 2 = 0 := by omega
    rw [this]; simp
end Go.Proofs.Ythideghgdmokkaa.Print
end
section
namespace Go.Proofs.Ythideghgdmokkaa.Print
open Go.RowKit Go.Proofs.YthideghgdmokkaaW.PrintWords Go.Proofs.YthideghgdmokkaaW.PrintLast Go.Proofs.YthideghgdmokkaaW.PrintMore
attribute [local go_sem] max2_int min2_int max_two min_two max_three min_three max_four min_four   -- for this text's walks alone
set_option linter.unusedVariables false
set_option linter.unusedSimpArgs false
def impl_has.f (a0 : Int) (a1 : Int) : Option (Bool) := if 0 ≤ a1 then (some ((Go.bits .and .i64 (shr .i64 a0 a1) 1) == 1)) else (none)
set_option maxHeartbeats 8000000 in
set_option maxRecDepth 100000 in
theorem impl_has.calls (a0 : Int) (a1 : Int) (r : Bool) (w : World) (h : impl_has.f a0 a1 = some r) :
    Calls Try.prog 64 #[.int .i64 a0, .int .i64 a1] w fun e w' => e = .returned (.bool r) ∧ Drawn0 w w' := by
  have H : (if 0 ≤ a1 then (some ((Go.bits .and .i64 (shr .i64 a0 a1) 1) == 1)) else (none)) = some r := h
  clear h
  by_cases c3 : 0 ≤ a1
  · rw [if_pos c3] at H
    have c3b0 := eq_true c3
    have c3b1 : decide (0 ≤ a1) = true := decide_eq_true c3
    clear c3
    obtain ⟨ji4, hji4⟩ : ∃ j_ : Int, (shr .i64 a0 a1) = j_ := ⟨_, rfl⟩
    replace H : (some ((Go.bits .and .i64 (ji4) 1) == 1)) = some r := by first | (rw [hji4] at H; exact H) | (simp only [hji4] at H ⊢; exact H)
    have hji4_ : (a0 / 2 ^ min a1.toNat 64) = ji4 := hji4
    have hji4z : a1 ≤ 64 → (a0 / 2 ^ a1.toNat) = ji4 := shr_small hji4
    obtain rfl := Option.some.inj H
    go_enter Try.func64, Try.ntmps64
    go_wp2
    go_ret
    exact ⟨by first | rfl | (simp; done) | (simp only [← hji4] <;> (first | rfl | simp)) | (simp [*]; done), by repeat (first | exact Drawn0.refl _ | apply Drawn0.step)⟩
  · rw [if_neg c3] at H
    exact absurd H (by simp)
end Go.Proofs.Ythideghgdmokkaa.Print
end
section
namespace Go.Proofs.Ythideghgdmokkaa.Print
open Go.RowKit Go.Proofs.YthideghgdmokkaaW.PrintWords Go.Proofs.YthideghgdmokkaaW.PrintLast Go.Proofs.YthideghgdmokkaaW.PrintMore
set_option linter.unusedVariables false
set_option linter.unusedSimpArgs false
open Oml
theorem has_nat (s : Nat) (hs : s < 4611686018427387904) {i : Nat} (h : i ≤ 64) : impl_has.f (s : Int) (i : Int) = some (s.testBit i) := by
  unfold impl_has.f
  rw [if_pos (by omega), shr_nat s h, show (1 : Int) = ((1 : Nat) : Int) from rfl, band_nat _ _ (Nat.lt_of_le_of_lt (Nat.div_le_self _ _) hs) (by omega), Nat.and_one_is_mod, testBit_div]
  have h2 : s / 2 ^ i % 2 = 0 ∨ s / 2 ^ i % 2 = 1 := by omega
  rcases h2 with h2 | h2 <;> rw [h2] <;> rfl
theorem has_in (s : Nat) (hs : s < 4611686018427387904) {i : Int} (h0 : 0 ≤ i) (h : i ≤ 64) : impl_has.f (s : Int) i = some (s.testBit i.toNat) := by
  obtain ⟨x, rfl⟩ : ∃ x : Nat, i = x := ⟨i.toNat, by omega⟩
  rw [Int.toNat_natCast]
  exact has_nat s hs (by omega)
end Go.Proofs.Ythideghgdmokkaa.Print
end
section
namespace Go.Proofs.Ythideghgdmokkaa.Print
open Go.RowKit Go.Proofs.YthideghgdmokkaaW.PrintWords Go.Proofs.YthideghgdmokkaaW.PrintLast Go.Proofs.YthideghgdmokkaaW.PrintMore
set_option linter.unusedVariables false
set_option linter.unusedSimpArgs false
open Oml
theorem Drawn0.quiet {P : Program} {f : FuncId} {args : Array Value} {w : World} {n : Nat} {v : Value}
    (h : Calls P f args (w.drewN n) fun e w' => e = .returned v ∧ Drawn0 (w.drewN n) w') : Calls P f args (w.drewN n) fun e w'' => e = .returned v ∧ ∃ m, w'' = w.drewN m :=
  h.mono fun _ _ ⟨he, ⟨⟨m, hm⟩⟩⟩ => ⟨he, n + m, by rw [hm, World.drewN_drewN]⟩
theorem Drawn0.quiet2 {P : Program} {f : FuncId} {args : Array Value} {w : World} {a n : Nat} {v : Value}
    (h : Calls P f args (w.drewN (a + n)) fun e w' => e = .returned v ∧ Drawn0 (w.drewN (a + n)) w') : Calls P f args (w.drewN (a + n)) fun e w'' => e = .returned v ∧ ∃ m, w'' = w.drewN (a + m) :=
  h.mono fun _ _ ⟨he, ⟨⟨m, hm⟩⟩⟩ => ⟨he, n + m, by rw [hm, World.drewN_drewN, Nat.add_assoc]⟩
end Go.Proofs.Ythideghgdmokkaa.Print
end
section
namespace Go.Proofs.Ythideghgdmokkaa.Print
open Go.RowKit Go.Proofs.YthideghgdmokkaaW.PrintWords Go.Proofs.YthideghgdmokkaaW.PrintLast Go.Proofs.YthideghgdmokkaaW.PrintMore
set_option linter.unusedVariables false
set_option linter.unusedSimpArgs false
open Oml
def stT (U : List (List Int)) (N : List Int) (s : Nat) (a b : Int) : Bool :=
  if s.testBit a.toNat = s.testBit (notI N a).toNat then false else if leI U a (notI N b) = false then true
  else !(s.testBit a.toNat && s.testBit b.toNat) && (s.testBit (orI U a b).toNat == (s.testBit a.toNat || s.testBit b.toNat))
def stB (U : List (List Int)) (N : List Int) (s : Nat) : Bool := s.testBit (yesI U N).toNat && allN U.length fun a => allN U.length fun b => stT U N s a b
def isSt (U : List (List Int)) (N : List Int) (x : Int) : Bool := decide (0 ≤ x) && (decide (x < ((2 ^ U.length : Nat) : Int)) && stB U N x.toNat)
theorem has_calls (s : Nat) (hs : s < 4611686018427387904) {i : Int} (h0 : 0 ≤ i) (h : i ≤ 64) (w : World) : Calls Try.prog 64 #[.int .i64 (s : Int), .int .i64 i] w fun e w' => e = .returned (.bool (s.testBit i.toNat)) ∧ Drawn0 w w' :=
  impl_has.calls _ _ _ _ (has_in s hs h0 h)
set_option maxHeartbeats 4000000 in
set_option maxRecDepth 100000 in
theorem st_c1 (g : Nat) (U : List (List Int)) (N : List Int) (v : Adr) (w : World) (L : Logic U N) (hV : View w g U N v) (gS gG : Nat) (s : Nat) (hs : s < 4611686018427387904) (a b : Int) (ia : In U a) (ib : In U b) (hS : w.heap[gS]? = some (.cells #[.int .i64 (s : Int)] 3 (0, 0))) (hG : w.heap[gG]? = some (.cells #[.pointer (some ⟨g, 0, none⟩)] 73 (0, 0))) :
    Calls Try.prog 108 #[.int .i64 a, .int .i64 b, .pointer (some ⟨gS, 0, none⟩), .pointer (some ⟨gG, 0, none⟩)] w fun e w' => e = .returned (.bool (stT U N s a b)) ∧ Below w.heap.size w w' := by
  have hu70 := Try.underlying81
  have HV := Aside0.mk hV
  have HLg := Aside0.mk L
  have Ia := Aside0.mk ia
  have Ib := Aside0.mk ib
  have hsm := L.small
  have small : ∀ i, In U i → 0 ≤ i ∧ i ≤ 64 := fun i hi => ⟨hi.1, by have := hi.2; omega⟩
  have hx_ := fun w => has_calls s hs (small a ia).1 (small a ia).2 w
  have hy_ := fun w => has_calls s hs (small b ib).1 (small b ib).2 w
  have hn_ := fun w => has_calls s hs (small _ (L.in_not ia)).1 (small _ (L.in_not ia)).2 w
  have hz_ := fun w => has_calls s hs (small _ (L.in_or ia ib)).1 (small _ (L.in_or ia ib)).2 w
  have v1 := L.le_val ia (L.in_not ib)
  unfold stT
  generalize s.testBit a.toNat = x at hx_ ⊢
  generalize s.testBit b.toNat = y at hy_ ⊢
  generalize s.testBit (notI N a).toNat = n at hn_ ⊢
  generalize s.testBit (orI U a b).toNat = z at hz_ ⊢
  generalize leI U a (notI N b) = le at v1 ⊢
  have HX := Aside0.mk hx_
  have HY := Aside0.mk hy_
  have HN := Aside0.mk hn_
  have HZ := Aside0.mk hz_
  have x0 : w.cell? ⟨gS, 0, none⟩ = some (.int .i64 (s : Int)) := (blk_cell hS 0).trans rfl
  have x1 : w.cell? ⟨gG, 0, none⟩ = some (.pointer (some ⟨g, 0, none⟩)) := (blk_cell hG 0).trans rfl
  clear hV L ia ib hx_ hy_ hn_ hz_ hS hG hsm small
  have b0_ := eq_true Ia.out.1; have c0_ := eq_true Ia.out.2
  have hf3_ := HV.out.f3
  have n2_ := HV.out.n a Ia.out
  have b3_ := eq_true Ib.out.1; have c3_ := eq_true Ib.out.2
  have n4_ := HV.out.n b Ib.out
  have IN1_ := Aside0.mk (HLg.out.in_not Ib.out)
  have b5_ := eq_true IN1_.out.1; have c5_ := eq_true IN1_.out.2
  have hf0_ := HV.out.f0
  have r7_ := HV.out.u a Ia.out
  have U2_ := Aside0.mk True.intro
  have hf2_ := HV.out.f2
  have r10_ := HV.out.j a Ia.out
  have s11_ := HV.out.j2 a b Ia.out Ib.out
  have u2_ : w.cell? ((v.rU a.toNat).add (notI N b).toNat) = some (.int .i64 (if le = true then 1 else 0)) := by rw [← v1]; exact HV.out.u2 a (notI N b) Ia.out (HLg.out.in_not Ib.out)
  clear v1 U2_
  have key : ∀ (P : Prop), P → P := fun _ h => h
  by_cases hxn : x = n
  · subst hxn
    have hd : (x == x) = true := by cases x <;> rfl
    rw [if_pos rfl]
    clear u2_
    go_enter Try.func108, Try.ntmps108
    go_wp2_with fail
    go_quiet ((go_at_call 64; first | (with_reducible exact Drawn0.quiet2 (HX.out _)) | (with_reducible exact Drawn0.quiet2 (HY.out _)) | (with_reducible exact Drawn0.quiet2 (HN.out _)) | (with_reducible exact Drawn0.quiet2 (HZ.out _)) | (with_reducible exact Drawn0.quiet (HX.out _)) | (with_reducible exact Drawn0.quiet (HY.out _)) | (with_reducible exact Drawn0.quiet (HN.out _)) | (with_reducible exact Drawn0.quiet (HZ.out _))))
    go_wp2
    go_ret
    exact ⟨rfl, by repeat (first | exact Below.refl _ _ | apply pw_below_drewN | apply below_drew1)⟩
  · have hd : (x == n) = false := by rw [beq_eq_false_iff_ne]; exact hxn
    rw [if_neg hxn]
    cases le with
    | false =>
      rw [if_neg (by simp)] at u2_
      rw [if_pos rfl]
      go_enter Try.func108, Try.ntmps108
      go_wp2_with fail
      go_quiet ((go_at_call 64; first | (with_reducible exact Drawn0.quiet2 (HX.out _)) | (with_reducible exact Drawn0.quiet2 (HY.out _)) | (with_reducible exact Drawn0.quiet2 (HN.out _)) | (with_reducible exact Drawn0.quiet2 (HZ.out _)) | (with_reducible exact Drawn0.quiet (HX.out _)) | (with_reducible exact Drawn0.quiet (HY.out _)) | (with_reducible exact Drawn0.quiet (HN.out _)) | (with_reducible exact Drawn0.quiet (HZ.out _))))
      go_wp2
      go_quiet (fail)
      go_wp2
      go_ret
      exact ⟨rfl, by repeat (first | exact Below.refl _ _ | apply pw_below_drewN | apply below_drew1)⟩
    | true =>
      rw [if_pos rfl] at u2_
      rw [if_neg (by simp)]
      clear hxn
      cases x <;> cases y
      all_goals
        go_enter Try.func108, Try.ntmps108
        go_wp2_with fail
        go_quiet ((go_at_call 64; first | (with_reducible exact Drawn0.quiet2 (HX.out _)) | (with_reducible exact Drawn0.quiet2 (HY.out _)) | (with_reducible exact Drawn0.quiet2 (HN.out _)) | (with_reducible exact Drawn0.quiet2 (HZ.out _)) | (with_reducible exact Drawn0.quiet (HX.out _)) | (with_reducible exact Drawn0.quiet (HY.out _)) | (with_reducible exact Drawn0.quiet (HN.out _)) | (with_reducible exact Drawn0.quiet (HZ.out _))))
        go_wp2
        go_quiet (fail)
        go_wp2
        go_quiet ((go_at_call 64; first | (with_reducible exact Drawn0.quiet2 (HX.out _)) | (with_reducible exact Drawn0.quiet2 (HY.out _)) | (with_reducible exact Drawn0.quiet2 (HN.out _)) | (with_reducible exact Drawn0.quiet2 (HZ.out _)) | (with_reducible exact Drawn0.quiet (HX.out _)) | (with_reducible exact Drawn0.quiet (HY.out _)) | (with_reducible exact Drawn0.quiet (HN.out _)) | (with_reducible exact Drawn0.quiet (HZ.out _))))
        go_wp2
        go_quiet ((go_at_call 64; first | (with_reducible exact Drawn0.quiet2 (HX.out _)) | (with_reducible exact Drawn0.quiet2 (HY.out _)) | (with_reducible exact Drawn0.quiet2 (HN.out _)) | (with_reducible exact Drawn0.quiet2 (HZ.out _)) | (with_reducible exact Drawn0.quiet (HX.out _)) | (with_reducible exact Drawn0.quiet (HY.out _)) | (with_reducible exact Drawn0.quiet (HN.out _)) | (with_reducible exact Drawn0.quiet (HZ.out _))))
        go_wp2
        go_ret
        exact ⟨by first | rfl | (cases z <;> rfl), by repeat (first | exact Below.refl _ _ | apply pw_below_drewN | apply below_drew1)⟩
end Go.Proofs.Ythideghgdmokkaa.Print
end
section
namespace Go.Proofs.Ythideghgdmokkaa.Print
open Go.RowKit Go.Proofs.YthideghgdmokkaaW.PrintWords Go.Proofs.YthideghgdmokkaaW.PrintLast Go.Proofs.YthideghgdmokkaaW.PrintMore
set_option linter.unusedVariables false
set_option linter.unusedSimpArgs false
open Oml
section
variable {U : List (List Int)} {N : List Int} (L : Logic U N)
theorem or_fin (x y : Fin U.length) : orI U x.1 y.1 = (((L.ol.join x y).1 : Nat) : Int) := by
  show jI U ((x.1 : Nat) : Int).toNat ((y.1 : Nat) : Int).toNat = _
  unfold jI; rw [Int.toNat_natCast, Int.toNat_natCast, L.jn_eq]; rfl
theorem not_fin (x : Fin U.length) : notI N x.1 = (((L.ol.neg x).1 : Nat) : Int) := by
  show at1 N ((x.1 : Nat) : Int).toNat = _
  rw [Int.toNat_natCast, L.ng_eq]; rfl
theorem no_fin : noI U = (((L.ol.bot).1 : Nat) : Int) := by
  unfold noI; rw [L.no_eq]; rfl
theorem yes_fin : yesI U N = (((L.ol.top).1 : Nat) : Int) := by
  unfold yesI; rw [no_fin L, not_fin L]; rfl
theorem le_fin (x y : Fin U.length) : leI U x.1 y.1 = true ↔ L.ol.le x y := by
  show leB U ((x.1 : Nat) : Int).toNat ((y.1 : Nat) : Int).toNat = true ↔ _
  rw [Int.toNat_natCast, Int.toNat_natCast]; rfl
theorem allN_fin {n : Nat} {p : Nat → Bool} : allN n p = true ↔ ∀ x : Fin n, p x.1 = true := by
  rw [allN_iff]
  exact ⟨fun h x => h x.1 x.2, fun h i hi => h ⟨i, hi⟩⟩
end
end Go.Proofs.Ythideghgdmokkaa.Print
end
section
namespace Go.Proofs.Ythideghgdmokkaa.Print
open Go.RowKit Go.Proofs.YthideghgdmokkaaW.PrintWords Go.Proofs.YthideghgdmokkaaW.PrintLast Go.Proofs.YthideghgdmokkaaW.PrintMore
set_option linter.unusedVariables false
set_option linter.unusedSimpArgs false
open Oml
def stS (U : List (List Int)) (N : List Int) (s : Nat) : Bool := s.testBit (yesI U N).toNat && allN U.length fun a => (s.testBit a != s.testBit (notI N a).toNat) && allN a fun b => !leI U a (notI N b) || (!(s.testBit a && s.testBit b) && (s.testBit (orI U a b).toNat == (s.testBit a || s.testBit b)))
section
variable {U : List (List Int)} {N : List Int} (L : Logic U N)
theorem stT_fin (s : Nat) (x y : Fin U.length) : stT U N s x.1 y.1 = true ↔ s.testBit (L.ol.neg x).1 = (!s.testBit x.1) ∧ (L.ol.le x (L.ol.neg y) → s.testBit (L.ol.join x y).1 = (s.testBit x.1 || s.testBit y.1) ∧ (s.testBit x.1 && s.testBit y.1) = false) := by
  unfold stT
  rw [not_fin L, not_fin L, or_fin L]
  simp only [Int.toNat_natCast]
  have hle : leI U ((x.1 : Nat) : Int) (((L.ol.neg y).1 : Nat) : Int) = false ↔ ¬ L.ol.le x (L.ol.neg y) := by
    rw [← le_fin L, Bool.not_eq_true]
  generalize s.testBit (L.ol.neg x).1 = n
  generalize s.testBit (L.ol.join x y).1 = z
  generalize s.testBit x.1 = p
  generalize s.testBit y.1 = q
  by_cases h : L.ol.le x (L.ol.neg y)
  · have h2 : ¬ leI U ((x.1 : Nat) : Int) (((L.ol.neg y).1 : Nat) : Int) = false := fun e => hle.1 e h
    rw [if_neg h2]
    cases n <;> cases z <;> cases p <;> cases q <;> simp [h]
  · rw [if_pos (hle.2 h)]
    cases n <;> cases p <;> simp [h]
theorem stB_iff (s : Nat) : stB U N s = true ↔ L.ol.State (fun x : Fin U.length => s.testBit x.1) := by
  unfold stB
  rw [Bool.and_eq_true, yes_fin L, Int.toNat_natCast, allN_fin]
  constructor
  · rintro ⟨h1, h2⟩
    have h3 : ∀ x y : Fin U.length, stT U N s x.1 y.1 = true := fun x y => allN_fin.1 (h2 x) y
    exact { top := h1, neg := fun a => ((stT_fin L s a a).1 (h3 a a)).1, join := fun a b h => ((stT_fin L s a b).1 (h3 a b)).2 h }
  · intro S
    exact ⟨S.top, fun x => allN_fin.2 fun y => (stT_fin L s x y).2 ⟨S.neg x, S.join x y⟩⟩
theorem stS_iff (s : Nat) : stS U N s = true ↔ L.ol.State (fun x : Fin U.length => s.testBit x.1) := by
  unfold stS
  rw [Bool.and_eq_true, yes_fin L, Int.toNat_natCast, allN_fin]
  have key : ∀ x y : Fin U.length, (!leI U ((x.1 : Nat) : Int) (notI N ((y.1 : Nat) : Int)) || (!(s.testBit x.1 && s.testBit y.1) && (s.testBit (orI U ((x.1 : Nat) : Int) ((y.1 : Nat) : Int)).toNat == (s.testBit x.1 || s.testBit y.1)))) = true ↔ (L.ol.le x (L.ol.neg y) → s.testBit (L.ol.join x y).1 = (s.testBit x.1 || s.testBit y.1) ∧ (s.testBit x.1 && s.testBit y.1) = false) := by
    intro x y
    rw [not_fin L, or_fin L, Int.toNat_natCast, ← le_fin L]
    generalize s.testBit (L.ol.join x y).1 = z
    generalize s.testBit x.1 = p
    generalize s.testBit y.1 = q
    generalize leI U ((x.1 : Nat) : Int) (((L.ol.neg y).1 : Nat) : Int) = le
    cases le <;> cases z <;> cases p <;> cases q <;> simp
  have neg : ∀ x : Fin U.length, (s.testBit x.1 != s.testBit (notI N ((x.1 : Nat) : Int)).toNat) = true ↔ s.testBit (L.ol.neg x).1 = (!s.testBit x.1) := by
    intro x
    rw [not_fin L, Int.toNat_natCast]
    generalize s.testBit (L.ol.neg x).1 = n
    generalize s.testBit x.1 = p
    cases n <;> cases p <;> simp
  constructor
  · rintro ⟨h1, h2⟩
    have hn : ∀ x : Fin U.length, s.testBit (L.ol.neg x).1 = (!s.testBit x.1) := fun x => (neg x).1 (Bool.and_eq_true_iff.1 (h2 x)).1
    have hb : s.testBit (L.ol.bot).1 = false := by
      have := hn L.ol.top
      rw [L.ol.neg_top, h1] at this
      exact this
    have hj : ∀ x y : Fin U.length, y.1 < x.1 → L.ol.le x (L.ol.neg y) → s.testBit (L.ol.join x y).1 = (s.testBit x.1 || s.testBit y.1) ∧ (s.testBit x.1 && s.testBit y.1) = false := fun x y hlt => (key x y).1 (allN_iff.1 (Bool.and_eq_true_iff.1 (h2 x)).2 y.1 hlt)
    refine { top := h1, neg := hn, join := fun x y h => ?_ }
    rcases Nat.lt_trichotomy y.1 x.1 with hlt | heq | hgt
    · exact hj x y hlt h
    · obtain rfl : y = x := Fin.ext heq
      have h3 : y = L.ol.bot := by
        have := L.ol.meet_neg y
        rwa [(L.ol.meet_eq_l y (L.ol.neg y)).2 h] at this
      show s.testBit (L.ol.join y y).1 = (s.testBit y.1 || s.testBit y.1) ∧ (s.testBit y.1 && s.testBit y.1) = false
      rw [L.ol.join_self, h3, hb]
      exact ⟨rfl, rfl⟩
    · have h' : L.ol.le y (L.ol.neg x) := by
        have := L.ol.neg_anti _ _ h
        rwa [L.ol.neg_neg] at this
      obtain ⟨e1, e2⟩ := hj y x hgt h'
      show s.testBit (L.ol.join x y).1 = (s.testBit x.1 || s.testBit y.1) ∧ (s.testBit x.1 && s.testBit y.1) = false
      rw [L.ol.join_comm, e1, Bool.or_comm, Bool.and_comm]
      exact ⟨rfl, e2⟩
  · intro S
    refine ⟨S.top, fun x => ?_⟩
    rw [Bool.and_eq_true, neg x, allN_iff]
    refine ⟨S.neg x, fun b hb => ?_⟩
    exact (key x ⟨b, by have := x.2; omega⟩).2 (S.join x _)
include L in
theorem stS_eq (s : Nat) : stS U N s = stB U N s := by rw [Bool.eq_iff_iff, stS_iff L, stB_iff L]
end
end Go.Proofs.Ythideghgdmokkaa.Print
end
section
namespace Go.Proofs.Ythideghgdmokkaa.Print
open Go.RowKit Go.Proofs.YthideghgdmokkaaW.PrintWords Go.Proofs.YthideghgdmokkaaW.PrintLast Go.Proofs.YthideghgdmokkaaW.PrintMore
set_option linter.unusedVariables false
set_option linter.unusedSimpArgs false
open Oml
set_option maxHeartbeats 4000000 in
set_option maxRecDepth 100000 in
theorem isState_calls (g : Nat) (U : List (List Int)) (N : List Int) (v : Adr) (x : Int) (w : World) (L : Logic U N) (hV : View w g U N v) :
    Calls Try.prog 58 #[.pointer (some ⟨g, 0, none⟩), .int .i64 x] w fun e w' => e = .returned (.bool (isSt U N x)) ∧ Below w.heap.size w w' := by
  have hu70 := Try.underlying81
  have HV := Aside0.mk hV
  have HLg := Aside0.mk L
  have HSM := Aside0.mk L.small
  obtain ⟨mv, hmv⟩ : ∃ mv : Int, mv = ((2 ^ U.length : Nat) : Int) := ⟨_, rfl⟩
  have e1_ : wrap64 (2 ^ min U.length 64) = mv := by rw [Nat.min_eq_left (show U.length ≤ 64 by have := L.small; omega), ← i64_w, wshl_nat (by have := L.small; omega), hmv]
  have e2_ : IntKind.i64.wrap (2 ^ min U.length 64) = mv := by rw [i64_w]; exact e1_
  have hM2 : 2 ^ U.length ≤ 4096 := Nat.pow_le_pow_right (by omega) L.small
  have HM2 := Aside0.mk hM2
  have HMV := Aside0.mk hmv
  unfold isSt
  rw [← hmv]
  by_cases h0 : x < 0
  · have d0 : decide (x < 0) = true := decide_eq_true h0
    have d1 : decide (0 ≤ x) = false := decide_eq_false (by omega)
    rw [d1]
    clear hV L hmv h0 d1 hM2
    go_enter Try.func58, Try.ntmps58
    go_wp2_with (first | ((with_reducible refine gate_dst (N := 2) rfl ?_); refine box_event ?hg (N := 2) ?hd (cs := #[.pointer (some ⟨g, 0, none⟩)]) (t := 73) ?hr ?_; (case hd => rfl); (case hg => rfl); (case hr => first | (go_simp; done) | (go_simp; rfl)); intro gG hg_ w1 hbox hb; have HXG := Aside0.mk hbox; have HB1 := Aside0.mk hb; clear hbox hb hg_) | ((with_reducible refine gate_dst (N := 3) rfl ?_); refine box_event ?hg (N := 3) ?hd (cs := #[.int .i64 x]) (t := 3) ?hr ?_; (case hd => rfl); (case hg => rfl); (case hr => first | (go_simp; done) | (go_simp; rfl)); intro gS hg_ w2 hbox hb; have HXS := Aside0.mk hbox; have HB2 := Aside0.mk (below_step HB1.out hb); have HXG2 := Aside0.mk (blk_below HXG.out hb); have x0 : w2.cell? ⟨gG, 0, none⟩ = some (.pointer (some ⟨g, 0, none⟩)) := (blk_cell HXG2.out 0).trans rfl; have x1 : w2.cell? ⟨gS, 0, none⟩ = some (.int .i64 x) := (blk_cell hbox 0).trans rfl; have hf0 := (HV.out.below HB2.out).f0; have hf5 := (HV.out.below HB2.out).f5; clear HXG HB1 hbox hb hg_))
    go_quiet (fail)
    go_wp2
    go_ret
    exact ⟨rfl, by repeat (first | exact HB2.out | apply pw_below_drewN | apply below_drew1)⟩
  · have d0 : decide (x < 0) = false := decide_eq_false h0
    have d1 : decide (0 ≤ x) = true := decide_eq_true (by omega)
    rw [d1]
    by_cases h1 : mv ≤ x
    · have d2 : decide (mv ≤ x) = true := decide_eq_true h1
      have d3 : decide (x < mv) = false := decide_eq_false (by omega)
      rw [d3]
      clear hV L hmv h0 h1 d1 d3 hM2
      go_enter Try.func58, Try.ntmps58
      go_wp2_with (first | ((with_reducible refine gate_dst (N := 2) rfl ?_); refine box_event ?hg (N := 2) ?hd (cs := #[.pointer (some ⟨g, 0, none⟩)]) (t := 73) ?hr ?_; (case hd => rfl); (case hg => rfl); (case hr => first | (go_simp; done) | (go_simp; rfl)); intro gG hg_ w1 hbox hb; have HXG := Aside0.mk hbox; have HB1 := Aside0.mk hb; clear hbox hb hg_) | ((with_reducible refine gate_dst (N := 3) rfl ?_); refine box_event ?hg (N := 3) ?hd (cs := #[.int .i64 x]) (t := 3) ?hr ?_; (case hd => rfl); (case hg => rfl); (case hr => first | (go_simp; done) | (go_simp; rfl)); intro gS hg_ w2 hbox hb; have HXS := Aside0.mk hbox; have HB2 := Aside0.mk (below_step HB1.out hb); have HXG2 := Aside0.mk (blk_below HXG.out hb); have x0 : w2.cell? ⟨gG, 0, none⟩ = some (.pointer (some ⟨g, 0, none⟩)) := (blk_cell HXG2.out 0).trans rfl; have x1 : w2.cell? ⟨gS, 0, none⟩ = some (.int .i64 x) := (blk_cell hbox 0).trans rfl; have hf0 := (HV.out.below HB2.out).f0; have hf5 := (HV.out.below HB2.out).f5; clear HXG HB1 hbox hb hg_))
      go_quiet (fail)
      go_wp2
      go_ret
      exact ⟨rfl, by repeat (first | exact HB2.out | apply pw_below_drewN | apply below_drew1)⟩
    · have d2 : decide (mv ≤ x) = false := decide_eq_false h1
      have d3 : decide (x < mv) = true := decide_eq_true (by omega)
      rw [d3]
      obtain ⟨s, hsx⟩ : ∃ s : Nat, x = (s : Int) := ⟨x.toNat, by omega⟩
      have hs : s < 4611686018427387904 := by omega
      rw [show x.toNat = s by omega, Bool.true_and, Bool.true_and]
      unfold stB
      have hy_ := fun w => has_calls s hs (i := yesI U N) L.in_yes.1 (by have := L.in_yes.2; have := L.small; omega) w
      rw [← hsx] at hy_
      have HS := Aside0.mk hs
      have HSX := Aside0.mk hsx
      generalize s.testBit (yesI U N).toNat = y at hy_ ⊢
      have HX := Aside0.mk hy_
      cases y with
      | false =>
        rw [Bool.false_and]
        clear hV L hmv h0 h1 d1 d3 hM2 hs hy_ hsx
        go_enter Try.func58, Try.ntmps58
        go_wp2_with (first | ((with_reducible refine gate_dst (N := 2) rfl ?_); refine box_event ?hg (N := 2) ?hd (cs := #[.pointer (some ⟨g, 0, none⟩)]) (t := 73) ?hr ?_; (case hd => rfl); (case hg => rfl); (case hr => first | (go_simp; done) | (go_simp; rfl)); intro gG hg_ w1 hbox hb; have HXG := Aside0.mk hbox; have HB1 := Aside0.mk hb; clear hbox hb hg_) | ((with_reducible refine gate_dst (N := 3) rfl ?_); refine box_event ?hg (N := 3) ?hd (cs := #[.int .i64 x]) (t := 3) ?hr ?_; (case hd => rfl); (case hg => rfl); (case hr => first | (go_simp; done) | (go_simp; rfl)); intro gS hg_ w2 hbox hb; have HXS := Aside0.mk hbox; have HB2 := Aside0.mk (below_step HB1.out hb); have HXG2 := Aside0.mk (blk_below HXG.out hb); have x0 : w2.cell? ⟨gG, 0, none⟩ = some (.pointer (some ⟨g, 0, none⟩)) := (blk_cell HXG2.out 0).trans rfl; have x1 : w2.cell? ⟨gS, 0, none⟩ = some (.int .i64 x) := (blk_cell hbox 0).trans rfl; have hf0 := (HV.out.below HB2.out).f0; have hf5 := (HV.out.below HB2.out).f5; clear HXG HB1 hbox hb hg_))
        go_quiet ((go_at_call 64; first | (with_reducible exact Drawn0.quiet (HX.out _)) | (with_reducible exact Drawn0.quiet2 (HX.out _))))
        go_wp2
        go_ret
        exact ⟨rfl, by repeat (first | exact HB2.out | apply pw_below_drewN | apply below_drew1)⟩
      | true =>
        rw [Bool.true_and]
        clear hV L hmv h0 h1 d1 d3 hM2 hs hy_ hsx
        go_enter Try.func58, Try.ntmps58
        go_wp2_with (first | ((with_reducible refine gate_dst (N := 2) rfl ?_); refine box_event ?hg (N := 2) ?hd (cs := #[.pointer (some ⟨g, 0, none⟩)]) (t := 73) ?hr ?_; (case hd => rfl); (case hg => rfl); (case hr => first | (go_simp; done) | (go_simp; rfl)); intro gG hg_ w1 hbox hb; have HXG := Aside0.mk hbox; have HB1 := Aside0.mk hb; clear hbox hb hg_) | ((with_reducible refine gate_dst (N := 3) rfl ?_); refine box_event ?hg (N := 3) ?hd (cs := #[.int .i64 x]) (t := 3) ?hr ?_; (case hd => rfl); (case hg => rfl); (case hr => first | (go_simp; done) | (go_simp; rfl)); intro gS hg_ w2 hbox hb; have HXS := Aside0.mk hbox; have HB2 := Aside0.mk (below_step HB1.out hb); have HXG2 := Aside0.mk (blk_below HXG.out hb); have x0 : w2.cell? ⟨gG, 0, none⟩ = some (.pointer (some ⟨g, 0, none⟩)) := (blk_cell HXG2.out 0).trans rfl; have x1 : w2.cell? ⟨gS, 0, none⟩ = some (.int .i64 x) := (blk_cell hbox 0).trans rfl; have hf0 := (HV.out.below HB2.out).f0; have hf5 := (HV.out.below HB2.out).f5; clear HXG HB1 hbox hb hg_))
        go_quiet ((go_at_call 64; first | (with_reducible exact Drawn0.quiet (HX.out _)) | (with_reducible exact Drawn0.quiet2 (HX.out _))))
        go_wp2_with (go_at_call 65; (with_reducible refine (every_pure g U N v _ HSM.out ?sV 108 _ #[.pointer (some ⟨gS, 0, none⟩), .pointer (some ⟨gG, 0, none⟩)] Try.func108 (by kernel_rfl) rfl (fun a b => stT U N s a b) ?sT).mono ?_); (case sV => exact (HV.out.below (by repeat (first | exact HB2.out | apply pw_below_drewN | apply below_drew1)))); (case sT => exact fun a b ha hb W hW => st_c1 g U N v W HLg.out ((HV.out.below (by repeat (first | exact HB2.out | apply pw_below_drewN | apply below_drew1))).below hW) gS gG s HS.out a b ⟨by omega, by omega⟩ ⟨by omega, by omega⟩ (by rw [← HSX.out]; exact blk_below (blk_drewN HXS.out _) hW) (blk_below (blk_drewN HXG2.out _) hW)); rintro e w3 ⟨rfl, hb⟩; have HB3 := Aside0.mk (below_step (by repeat (first | exact HB2.out | apply pw_below_drewN | apply below_drew1)) hb); clear hb)
        go_ret
        exact ⟨rfl, by repeat (first | exact HB3.out | apply pw_below_drewN | apply below_drew1)⟩
def stN (U : List (List Int)) (N : List Int) : List Nat := (List.range (2 ^ U.length)).filter fun (s : Nat) => isSt U N (s : Int)
def stL (U : List (List Int)) (N : List Int) : List Int := filI (2 ^ U.length) fun (s : Nat) => isSt U N (s : Int)
set_option maxHeartbeats 4000000 in
set_option maxRecDepth 100000 in
theorem states_calls (g : Nat) (U : List (List Int)) (N : List Int) (v : Adr) (w : World) (L : Logic U N) (hV : View w g U N v) :
    Calls Try.prog 60 #[.pointer (some ⟨g, 0, none⟩)] w fun e w' => ∃ v0, e = .returned v0 ∧ Kd.R (Kd.int .i64) 3 w' w.heap.size (fun _ => True) v0 (stL U N) ∧ Below w.heap.size w w' := by
  have hu70 := Try.underlying81
  have HV := Aside0.mk hV
  have HLg := Aside0.mk L
  have HSM := Aside0.mk L.small
  obtain ⟨mv, hmv⟩ : ∃ mv : Int, mv = ((2 ^ U.length : Nat) : Int) := ⟨_, rfl⟩
  have e1_ : wrap64 (2 ^ min U.length 64) = mv := by rw [Nat.min_eq_left (show U.length ≤ 64 by have := L.small; omega), ← i64_w, wshl_nat (by have := L.small; omega), hmv]
  have e2_ : IntKind.i64.wrap (2 ^ min U.length 64) = mv := by rw [i64_w]; exact e1_
  have hM2 : 2 ^ U.length ≤ 4096 := Nat.pow_le_pow_right (by omega) L.small
  have HM2 := Aside0.mk hM2
  have HMV := Aside0.mk hmv
  obtain ⟨M, hM⟩ : ∃ M : Nat, M = 2 ^ U.length := ⟨_, rfl⟩
  have HM := Aside0.mk hM
  have HMV2 := Aside0.mk (show mv = (M : Int) by rw [hmv, hM])
  have HM3 := Aside0.mk (show M ≤ 4096 by omega)
  clear hV L hmv hM2 hM
  go_enter Try.func60, Try.ntmps60
  go_wp2_with ((with_reducible refine gate_dst (N := 5) rfl ?_); refine Kd.R_lit (Kd.int .i64) _ 3 ?hg (N := 5) ?hd (xs := ([] : List Int)) (inner := []) (ok := fun _ => True) (okp := fun _ => True) ?hr ?hp (fun _ hk => hk) trivial (Below.refl _ _) (Nat.le_refl _) (by simp) ?_; (case hd => rfl); (case hg => rfl); (case hr => first | (go_simp; done) | (go_simp; rfl)); (case hp => exact (Reps.none _ _)); intro v0 w3 ho hb hg_ hnew_; clear hg_ hnew_; have HO3 := Aside0.mk ho; have HB3 := Aside0.mk hb; have hf0 := (HV.out.below hb).f0; clear ho hb)
  go_loopg [12, 3] (M + 1) (fun kq v12 v3 W => ∃ s : Nat, v12 = .int .i64 s ∧ Aside0 (s + kq = M + 1) ∧ Aside0 (s ≤ M) ∧ Aside0 (Kd.R (Kd.int .i64) 3 W w.heap.size (fun _ => True) v3 (filI s fun (s : Nat) => isSt U N (s : Int))) ∧ Aside0 (Below w.heap.size w W))
  case atStart => exact ⟨0, by first | rfl | simp, ⟨by omega⟩, ⟨by omega⟩, HO3, HB3⟩
  case round =>
    clear hf0
    obtain ⟨s, rfl, HK, HK2, HOr, HBr⟩ := hrel
    cases gk with
    | zero => exact absurd HK.out (by have := HK2.out; omega)
    | succ kn =>
    by_cases hlt : s < M
    · have hlt' : decide ((s : Int) < mv) = true := decide_eq_true (by rw [HMV2.out]; omega)
      have HLT := Aside0.mk hlt
      clear hlt
      cases ht : isSt U N (s : Int) with
      | true =>
        have HT := Aside0.mk ht
        clear ht
        go_wp2_with (first | (go_at_call 58; (with_reducible refine (isState_calls g U N v (s : Int) _ HLg.out (HV.out.below HBr.out)).mono ?_); rintro e w5 ⟨he, hb⟩; rw [HT.out] at he; subst he; have HO5 := Aside0.mk (Kd.R_below HOr.out hb); have HB5 := Aside0.mk (below_step HBr.out hb); clear HOr HBr hb) | ((with_reducible refine gate_builtin (b := .append) (xs := #[.tmp 18, .tmp 20]) rfl ?_); at_builtin; refine Kd.R_append (Kd.int .i64) (w0 := w) w.heap.size rfl (.tmp 18) (.tmp 20) 23 3 (.int .i64 0) 8 rfl Try.underlying23 infoInt rfl (by decide) (by omega) u3 (filI s fun (s : Nat) => isSt U N (s : Int)) (s : Int) [.int .i64 s] (fun _ => True) (fun _ => False) rfl rfl ?aP (fun _ hk => hk.elim) ?aF ?aO ?aB ?aS ?aL ?_; (case aP => exact rfl); (case aB => exact HB5.out); (case aF => exact (fun _ _ => trivial)); (case aO => exact HO5.out); (case aS => exact (below_size HB5.out)); (case aL => have := filI_length s (fun (s : Nat) => isSt U N (s : Int)); have := HLT.out; have := HM3.out; omega); intro v3n w21 ho hb hg hat; have HB6 := Aside0.mk hb; have HO6 := Aside0.mk ho; clear ho hb hg hat HO5 HB5))
        go_roundg kn
        case measure => omega
        case rel => exact ⟨s + 1, by first | go_num | (rw [wrap_small (by omega) (by have := HLT.out; have := HM3.out; omega)]; go_num), ⟨by have := HK.out; omega⟩, ⟨by have := HLT.out; omega⟩, ⟨by rw [filI_succ, if_pos HT.out]; exact HO6.out⟩, HB6⟩
      | false =>
        have HT := Aside0.mk ht
        clear ht
        go_wp2_with (go_at_call 58; (with_reducible refine (isState_calls g U N v (s : Int) _ HLg.out (HV.out.below HBr.out)).mono ?_); rintro e w5 ⟨he, hb⟩; rw [HT.out] at he; subst he; have HO5 := Aside0.mk (Kd.R_below HOr.out hb); have HB5 := Aside0.mk (below_step HBr.out hb); clear HOr HBr hb)
        go_roundg kn
        case measure => omega
        case rel => exact ⟨s + 1, by first | go_num | (rw [wrap_small (by omega) (by have := HLT.out; have := HM3.out; omega)]; go_num), ⟨by have := HK.out; omega⟩, ⟨by have := HLT.out; omega⟩, ⟨by rw [filI_succ, if_neg (by rw [HT.out]; simp)]; exact HO5.out⟩, HB5⟩
    · have hlt' : decide ((s : Int) < mv) = false := decide_eq_false (by rw [HMV2.out]; omega)
      obtain rfl : s = M := by have := HK2.out; omega
      clear hlt
      go_wp2_with fail
      go_ret
      exact ⟨_, rfl, by have h := HOr.out; rw [HM.out] at h; exact h, by repeat (first | exact HBr.out | apply pw_below_drewN | apply below_drew1)⟩
end Go.Proofs.Ythideghgdmokkaa.Print
end
section
namespace Go.Proofs.Ythideghgdmokkaa.Print
open Go.RowKit Go.Proofs.YthideghgdmokkaaW.PrintWords Go.Proofs.YthideghgdmokkaaW.PrintLast Go.Proofs.YthideghgdmokkaaW.PrintMore
set_option linter.unusedVariables false
set_option linter.unusedSimpArgs false
open Oml
def filN (n : Nat) (p : Nat → Bool) : List Nat := (List.range n).filter p
theorem filI_eq (n : Nat) (p : Nat → Bool) : filI n p = (filN n p).map fun (s : Nat) => (s : Int) := rfl
theorem filI_len (n : Nat) (p : Nat → Bool) : (filI n p).length = (filN n p).length := by rw [filI_eq, List.length_map]
theorem filI_at (n : Nat) (p : Nat → Bool) (i : Nat) : at1 (filI n p) i = (((filN n p).getD i 0 : Nat) : Int) := by
  rw [filI_eq]
  simp only [at1, List.getD_eq_getElem?_getD, List.getElem?_map]
  cases (filN n p)[i]? <;> rfl
theorem filN_at {n : Nat} {p : Nat → Bool} {i : Nat} (h : i < (filN n p).length) : (filN n p).getD i 0 < n ∧ p ((filN n p).getD i 0) = true := by
  rw [List.getD_eq_getElem?_getD, List.getElem?_eq_getElem h]
  have h1 := List.mem_filter.1 (List.getElem_mem h)
  exact ⟨by simpa using h1.1, h1.2⟩
theorem filN_lt {n : Nat} (hn : n ≤ 4096) (p : Nat → Bool) (i : Nat) : (filN n p).getD i 0 < 4611686018427387904 := by
  by_cases h : i < (filN n p).length
  · have := (filN_at h).1; omega
  · rw [List.getD_eq_getElem?_getD, List.getElem?_eq_none (by omega)]; simp
theorem filN_len (n : Nat) (p : Nat → Bool) : (filN n p).length ≤ n := by
  have h1 := List.length_filter_le p (List.range n)
  rw [List.length_range] at h1
  exact h1
end Go.Proofs.Ythideghgdmokkaa.Print
end
section
namespace Go.Proofs.Ythideghgdmokkaa.Print
open Go.RowKit Go.Proofs.YthideghgdmokkaaW.PrintWords Go.Proofs.YthideghgdmokkaaW.PrintLast Go.Proofs.YthideghgdmokkaaW.PrintMore
attribute [local go_sem] max2_int min2_int max_two min_two max_three min_three max_four min_four   -- for this text's walks alone
set_option linter.unusedVariables false
set_option linter.unusedSimpArgs false
def spec_l1In.f (a0 : Int) (a1 : Int) (a2 : Int) : Option (Bool) := if a0 ≥ a1 then (some (decide (a0 ≤ a2))) else (some false)
set_option maxHeartbeats 8000000 in
set_option maxRecDepth 100000 in
theorem spec_l1In.calls (a0 : Int) (a1 : Int) (a2 : Int) (r : Bool) (w : World) (h : spec_l1In.f a0 a1 a2 = some r) :
    Calls Try.prog 52 #[.int .i64 a0, .int .i64 a1, .int .i64 a2] w fun e w' => e = .returned (.bool r) ∧ Drawn0 w w' := by
  have H : (if a0 ≥ a1 then (some (decide (a0 ≤ a2))) else (some false)) = some r := h
  clear h
  by_cases c4 : a0 ≥ a1
  · rw [if_pos c4] at H
    have c4b0 : decide (a1 ≤ a0) = true := decide_eq_true c4
    clear c4
    obtain rfl := Option.some.inj H
    go_enter Try.func52, Try.ntmps52
    go_wp2
    go_ret
    exact ⟨by first | rfl | (simp; done) | (simp [*]; done), by repeat (first | exact Drawn0.refl _ | apply Drawn0.step)⟩
  · rw [if_neg c4] at H
    have c4b0 : decide (a1 ≤ a0) = false := decide_eq_false c4
    clear c4
    obtain rfl := Option.some.inj H
    go_enter Try.func52, Try.ntmps52
    go_wp2
    go_ret
    exact ⟨by first | rfl | (simp; done) | (simp [*]; done), by repeat (first | exact Drawn0.refl _ | apply Drawn0.step)⟩
end Go.Proofs.Ythideghgdmokkaa.Print
end
section
namespace Go.Proofs.Ythideghgdmokkaa.Print
open Go.RowKit Go.Proofs.YthideghgdmokkaaW.PrintWords Go.Proofs.YthideghgdmokkaaW.PrintLast Go.Proofs.YthideghgdmokkaaW.PrintMore
attribute [local go_sem] max2_int min2_int max_two min_two max_three min_three max_four min_four   -- for this text's walks alone
set_option linter.unusedVariables false
set_option linter.unusedSimpArgs false
mutual
def spec_l1Meet.l0 : Nat → List (List Int) → Int → Int → Int → Int → Option (Int)
  | 0, _, _, _, _, _ => none
  | k + 1, x0, x1, x2, x7, x8 => if x8 < (x0.length : Int) then (if 0 ≤ x8 then (if 0 ≤ x1 then (if x1 < ((rd_L1 x0 x8).length : Int) then (if (rd (rd_L1 x0 x8) x1) = 1 then (if 0 ≤ x2 then (if x2 < ((rd_L1 x0 x8).length : Int) then (if (rd (rd_L1 x0 x8) x2) = 1 then (if x7 < 0 then (spec_l1Meet.l0 k x0 x1 x2 x8 (wrap64 (x8 + 1))) else (if 0 ≤ x7 then (if x7 < (x0.length : Int) then (if x8 < ((rd_L1 x0 x7).length : Int) then (if (rd (rd_L1 x0 x7) x8) = 1 then (spec_l1Meet.l0 k x0 x1 x2 x8 (wrap64 (x8 + 1))) else (spec_l1Meet.l0 k x0 x1 x2 x7 (wrap64 (x8 + 1)))) else (none)) else (none)) else (none))) else (spec_l1Meet.l0 k x0 x1 x2 x7 (wrap64 (x8 + 1)))) else (none)) else (none)) else (spec_l1Meet.l0 k x0 x1 x2 x7 (wrap64 (x8 + 1)))) else (none)) else (none)) else (none)) else (spec_l1Meet.l1 k x0 x1 x2 x7 0)
def spec_l1Meet.l1 : Nat → List (List Int) → Int → Int → Int → Int → Option (Int)
  | 0, _, _, _, _, _ => none
  | k + 1, x0, x1, x2, x7, x9 => if x9 < (x0.length : Int) then (if 0 ≤ x9 then (if 0 ≤ x1 then (if x1 < ((rd_L1 x0 x9).length : Int) then (if (rd (rd_L1 x0 x9) x1) = 1 then (if 0 ≤ x2 then (if x2 < ((rd_L1 x0 x9).length : Int) then (if (rd (rd_L1 x0 x9) x2) = 1 then (if 0 ≤ x7 then (if x7 < ((rd_L1 x0 x9).length : Int) then (if (rd (rd_L1 x0 x9) x7) = 0 then (some (-1)) else (spec_l1Meet.l1 k x0 x1 x2 x7 (wrap64 (x9 + 1)))) else (none)) else (none)) else (spec_l1Meet.l1 k x0 x1 x2 x7 (wrap64 (x9 + 1)))) else (none)) else (none)) else (spec_l1Meet.l1 k x0 x1 x2 x7 (wrap64 (x9 + 1)))) else (none)) else (none)) else (none)) else (some x7)
end
def spec_l1Meet.f (k : Nat) (l0 : List (List Int)) (a1 : Int) (a2 : Int) : Option (Int) := spec_l1Meet.l0 k l0 a1 a2 (-1) 0
set_option maxHeartbeats 8000000 in
set_option maxRecDepth 100000 in
theorem spec_l1Meet.calls (k : Nat) (A0 : Option Addr) (c0 : Nat) (l0 : List (List Int)) (a1 : Int) (a2 : Int) (r : Int) (w : World) (hr0 : Kd.C (Kd.slice 3 (Kd.int .i64)) w A0 l0.length l0) (hc0 : l0.length ≤ c0) (h : spec_l1Meet.f k l0 a1 a2 = some r) :
    Calls Try.prog 101 #[.slice A0 l0.length c0, .int .i64 a1, .int .i64 a2] w fun e w' => e = .returned (.int .i64 r) ∧ Drawn0 w w' := by
  have HR0 := Aside0.mk hr0
  have HC0 := Aside0.mk hc0
  clear hr0 hc0
  have H : (spec_l1Meet.l0 k l0 a1 a2 (-1) 0) = some r := h
  clear h
  have H' := Aside0.mk H
  clear H
  go_enter Try.func101, Try.ntmps101
  go_wp2
  go_loopg [7, 8] k (fun kq v7 v8 w' => ∃ (x7_1 : Int) (x8_1 : Int), v7 = .int .i64 x7_1 ∧ v8 = .int .i64 x8_1 ∧ Aside0 (spec_l1Meet.l0 kq l0 a1 a2 x7_1 x8_1 = some r) ∧ Aside0 (kq ≤ k) ∧ Drawn0 w w')
  case atStart => exact ⟨((-1)), (0), (by first | rfl | (simp; done) | (simp [*]; done)), (by first | rfl | (simp; done) | (simp [*]; done)), H', ⟨Nat.le_refl _⟩, by repeat (first | exact Drawn0.refl _ | apply Drawn0.step)⟩
  case round =>
    clear H'
    try clear c1
    try clear p2
    obtain ⟨x7_1, x8_1, rfl, rfl, HA, HK1, ⟨m1, rfl⟩⟩ := hrel
    cases gk with
    | zero => exact absurd HA.out (by simp [spec_l1Meet.l0])
    | succ k1 =>
      have H := HA.out
      clear HA
      simp only [spec_l1Meet.l0] at H
      by_cases c4 : x8_1 < (l0.length : Int)
      · rw [if_pos c4] at H
        have c4b0 : decide (x8_1 < (l0.length : Int)) = true := decide_eq_true c4
        clear c4
        by_cases c5 : 0 ≤ x8_1
        · rw [if_pos c5] at H
          have c5b0 : decide (0 ≤ x8_1) = true := decide_eq_true c5
          clear c5
          by_cases c6 : 0 ≤ a1
          · rw [if_pos c6] at H
            have c6b0 : decide (0 ≤ a1) = true := decide_eq_true c6
            clear c6
            by_cases c7 : a1 < ((rd_L1 l0 x8_1).length : Int)
            · rw [if_pos c7] at H
              have c7b0 : decide (a1 < ((rd_L1 l0 x8_1).length : Int)) = true := decide_eq_true c7
              clear c7
              by_cases c8 : (rd (rd_L1 l0 x8_1) a1) = 1
              · rw [if_pos c8] at H
                have c8b0 : ((rd (rd_L1 l0 x8_1) a1) == 1) = true := beq_iff_eq.mpr c8
                have c8b1 : ((rd (rd_L1 l0 x8_1) a1) != 1) = false := bne_eq_false_iff_eq.mpr c8
                clear c8
                by_cases c9 : 0 ≤ a2
                · rw [if_pos c9] at H
                  have c9b0 : decide (0 ≤ a2) = true := decide_eq_true c9
                  clear c9
                  by_cases c10 : a2 < ((rd_L1 l0 x8_1).length : Int)
                  · rw [if_pos c10] at H
                    have c10b0 : decide (a2 < ((rd_L1 l0 x8_1).length : Int)) = true := decide_eq_true c10
                    clear c10
                    by_cases c11 : (rd (rd_L1 l0 x8_1) a2) = 1
                    · rw [if_pos c11] at H
                      have c11b0 : ((rd (rd_L1 l0 x8_1) a2) == 1) = true := beq_iff_eq.mpr c11
                      have c11b1 : ((rd (rd_L1 l0 x8_1) a2) != 1) = false := bne_eq_false_iff_eq.mpr c11
                      clear c11
                      by_cases c12 : x7_1 < 0
                      · rw [if_pos c12] at H
                        have c12b0 : decide (x7_1 < 0) = true := decide_eq_true c12
                        clear c12
                        have H' := Aside0.mk H
                        clear H
                        have p106 : 0 ≤ (x8_1 : Int) := of_decide_eq_true (by first | (with_reducible assumption) | assumption)
                        have q106 : x8_1 < (l0.length : Int) := of_decide_eq_true (by first | (with_reducible assumption) | assumption)
                        obtain ⟨ad106, A106_0, c106_0, e106, hx106_0, hl106_0, hi106_0⟩ := at_L1 HR0.out x8_1 p106 q106
                        cases e106
                        have HR106_0 := Aside0.mk hi106_0
                        have HC106_0 := Aside0.mk hl106_0
                        clear hi106_0 hl106_0
                        replace p106 := eq_true p106
                        replace q106 := eq_true q106
                        have p107 : 0 ≤ (a1 : Int) := of_decide_eq_true (by first | (with_reducible assumption) | assumption)
                        have q107 : a1 < ((rd_L1 l0 x8_1).length : Int) := of_decide_eq_true (by first | (with_reducible assumption) | assumption)
                        obtain ⟨ad107, e107, hx107_0⟩ := Kd.at_int HR106_0.out a1 p107 q107
                        cases e107
                        replace p107 := eq_true p107
                        replace q107 := eq_true q107
                        have p108 : 0 ≤ (x8_1 : Int) := of_decide_eq_true (by first | (with_reducible assumption) | assumption)
                        have q108 : x8_1 < (l0.length : Int) := of_decide_eq_true (by first | (with_reducible assumption) | assumption)
                        obtain ⟨ad108, A108_0, c108_0, e108, hx108_0, hl108_0, hi108_0⟩ := at_L1 HR0.out x8_1 p108 q108
                        obtain rfl : ad106 = ad108 := (by injection e108)
                        have HR108_0 := Aside0.mk hi108_0
                        have HC108_0 := Aside0.mk hl108_0
                        clear hi108_0 hl108_0
                        replace p108 := eq_true p108
                        replace q108 := eq_true q108
                        have ea_ := Option.some.inj (hx106_0.symm.trans hx108_0)
                        injection ea_ with ea_ en_ ec_
                        subst ea_
                        subst ec_
                        clear en_
                        have p109 : 0 ≤ (a2 : Int) := of_decide_eq_true (by first | (with_reducible assumption) | assumption)
                        have q109 : a2 < ((rd_L1 l0 x8_1).length : Int) := of_decide_eq_true (by first | (with_reducible assumption) | assumption)
                        obtain ⟨ad109, e109, hx109_0⟩ := Kd.at_int HR108_0.out a2 p109 q109
                        cases e109
                        replace p109 := eq_true p109
                        replace q109 := eq_true q109
                        go_wp2
                        go_roundg k1
                        case measure => have := HK1.out; omega
                        case rel => exact ⟨(x8_1), (wrap64 (x8_1 + 1)), (by first | rfl | (simp; done) | (simp [*]; done)), (by first | rfl | (simp; done) | (simp [*]; done)), H', ⟨by have := HK1.out; omega⟩, by repeat (first | exact Drawn0.refl _ | apply Drawn0.step)⟩
                      · rw [if_neg c12] at H
                        have c12b0 : decide (x7_1 < 0) = false := decide_eq_false c12
                        clear c12
                        by_cases c13 : 0 ≤ x7_1
                        · rw [if_pos c13] at H
                          have c13b0 : decide (0 ≤ x7_1) = true := decide_eq_true c13
                          clear c13
                          by_cases c14 : x7_1 < (l0.length : Int)
                          · rw [if_pos c14] at H
                            have c14b0 : decide (x7_1 < (l0.length : Int)) = true := decide_eq_true c14
                            clear c14
                            by_cases c15 : x8_1 < ((rd_L1 l0 x7_1).length : Int)
                            · rw [if_pos c15] at H
                              have c15b0 : decide (x8_1 < ((rd_L1 l0 x7_1).length : Int)) = true := decide_eq_true c15
                              clear c15
                              by_cases c16 : (rd (rd_L1 l0 x7_1) x8_1) = 1
                              · rw [if_pos c16] at H
                                have c16b0 : ((rd (rd_L1 l0 x7_1) x8_1) == 1) = true := beq_iff_eq.mpr c16
                                have c16b1 : ((rd (rd_L1 l0 x7_1) x8_1) != 1) = false := bne_eq_false_iff_eq.mpr c16
                                clear c16
                                have H' := Aside0.mk H
                                clear H
                                have p106 : 0 ≤ (x8_1 : Int) := of_decide_eq_true (by first | (with_reducible assumption) | assumption)
                                have q106 : x8_1 < (l0.length : Int) := of_decide_eq_true (by first | (with_reducible assumption) | assumption)
                                obtain ⟨ad106, A106_0, c106_0, e106, hx106_0, hl106_0, hi106_0⟩ := at_L1 HR0.out x8_1 p106 q106
                                cases e106
                                have HR106_0 := Aside0.mk hi106_0
                                have HC106_0 := Aside0.mk hl106_0
                                clear hi106_0 hl106_0
                                replace p106 := eq_true p106
                                replace q106 := eq_true q106
                                have p107 : 0 ≤ (a1 : Int) := of_decide_eq_true (by first | (with_reducible assumption) | assumption)
                                have q107 : a1 < ((rd_L1 l0 x8_1).length : Int) := of_decide_eq_true (by first | (with_reducible assumption) | assumption)
                                obtain ⟨ad107, e107, hx107_0⟩ := Kd.at_int HR106_0.out a1 p107 q107
                                cases e107
                                replace p107 := eq_true p107
                                replace q107 := eq_true q107
                                have p108 : 0 ≤ (x8_1 : Int) := of_decide_eq_true (by first | (with_reducible assumption) | assumption)
                                have q108 : x8_1 < (l0.length : Int) := of_decide_eq_true (by first | (with_reducible assumption) | assumption)
                                obtain ⟨ad108, A108_0, c108_0, e108, hx108_0, hl108_0, hi108_0⟩ := at_L1 HR0.out x8_1 p108 q108
                                obtain rfl : ad106 = ad108 := (by injection e108)
                                have HR108_0 := Aside0.mk hi108_0
                                have HC108_0 := Aside0.mk hl108_0
                                clear hi108_0 hl108_0
                                replace p108 := eq_true p108
                                replace q108 := eq_true q108
                                have ea_ := Option.some.inj (hx106_0.symm.trans hx108_0)
                                injection ea_ with ea_ en_ ec_
                                subst ea_
                                subst ec_
                                clear en_
                                have p109 : 0 ≤ (a2 : Int) := of_decide_eq_true (by first | (with_reducible assumption) | assumption)
                                have q109 : a2 < ((rd_L1 l0 x8_1).length : Int) := of_decide_eq_true (by first | (with_reducible assumption) | assumption)
                                obtain ⟨ad109, e109, hx109_0⟩ := Kd.at_int HR108_0.out a2 p109 q109
                                cases e109
                                replace p109 := eq_true p109
                                replace q109 := eq_true q109
                                have p110 : 0 ≤ (x7_1 : Int) := of_decide_eq_true (by first | (with_reducible assumption) | assumption)
                                have q110 : x7_1 < (l0.length : Int) := of_decide_eq_true (by first | (with_reducible assumption) | assumption)
                                obtain ⟨ad110, A110_0, c110_0, e110, hx110_0, hl110_0, hi110_0⟩ := at_L1 HR0.out x7_1 p110 q110
                                obtain rfl : ad106 = ad110 := (by injection e110)
                                have HR110_0 := Aside0.mk hi110_0
                                have HC110_0 := Aside0.mk hl110_0
                                clear hi110_0 hl110_0
                                replace p110 := eq_true p110
                                replace q110 := eq_true q110
                                have p111 : 0 ≤ (x8_1 : Int) := of_decide_eq_true (by first | (with_reducible assumption) | assumption)
                                have q111 : x8_1 < ((rd_L1 l0 x7_1).length : Int) := of_decide_eq_true (by first | (with_reducible assumption) | assumption)
                                obtain ⟨ad111, e111, hx111_0⟩ := Kd.at_int HR110_0.out x8_1 p111 q111
                                cases e111
                                replace p111 := eq_true p111
                                replace q111 := eq_true q111
                                go_wp2
                                go_roundg k1
                                case measure => have := HK1.out; omega
                                case rel => exact ⟨(x8_1), (wrap64 (x8_1 + 1)), (by first | rfl | (simp; done) | (simp [*]; done)), (by first | rfl | (simp; done) | (simp [*]; done)), H', ⟨by have := HK1.out; omega⟩, by repeat (first | exact Drawn0.refl _ | apply Drawn0.step)⟩
                              · rw [if_neg c16] at H
                                have c16b0 : ((rd (rd_L1 l0 x7_1) x8_1) == 1) = false := beq_eq_false_iff_ne.mpr c16
                                have c16b1 : ((rd (rd_L1 l0 x7_1) x8_1) != 1) = true := bne_iff_ne.mpr c16
                                have H' := Aside0.mk H
                                clear H
                                have p106 : 0 ≤ (x8_1 : Int) := of_decide_eq_true (by first | (with_reducible assumption) | assumption)
                                have q106 : x8_1 < (l0.length : Int) := of_decide_eq_true (by first | (with_reducible assumption) | assumption)
                                obtain ⟨ad106, A106_0, c106_0, e106, hx106_0, hl106_0, hi106_0⟩ := at_L1 HR0.out x8_1 p106 q106
                                cases e106
                                have HR106_0 := Aside0.mk hi106_0
                                have HC106_0 := Aside0.mk hl106_0
                                clear hi106_0 hl106_0
                                replace p106 := eq_true p106
                                replace q106 := eq_true q106
                                have p107 : 0 ≤ (a1 : Int) := of_decide_eq_true (by first | (with_reducible assumption) | assumption)
                                have q107 : a1 < ((rd_L1 l0 x8_1).length : Int) := of_decide_eq_true (by first | (with_reducible assumption) | assumption)
                                obtain ⟨ad107, e107, hx107_0⟩ := Kd.at_int HR106_0.out a1 p107 q107
                                cases e107
                                replace p107 := eq_true p107
                                replace q107 := eq_true q107
                                have p108 : 0 ≤ (x8_1 : Int) := of_decide_eq_true (by first | (with_reducible assumption) | assumption)
                                have q108 : x8_1 < (l0.length : Int) := of_decide_eq_true (by first | (with_reducible assumption) | assumption)
                                obtain ⟨ad108, A108_0, c108_0, e108, hx108_0, hl108_0, hi108_0⟩ := at_L1 HR0.out x8_1 p108 q108
                                obtain rfl : ad106 = ad108 := (by injection e108)
                                have HR108_0 := Aside0.mk hi108_0
                                have HC108_0 := Aside0.mk hl108_0
                                clear hi108_0 hl108_0
                                replace p108 := eq_true p108
                                replace q108 := eq_true q108
                                have ea_ := Option.some.inj (hx106_0.symm.trans hx108_0)
                                injection ea_ with ea_ en_ ec_
                                subst ea_
                                subst ec_
                                clear en_
                                have p109 : 0 ≤ (a2 : Int) := of_decide_eq_true (by first | (with_reducible assumption) | assumption)
                                have q109 : a2 < ((rd_L1 l0 x8_1).length : Int) := of_decide_eq_true (by first | (with_reducible assumption) | assumption)
                                obtain ⟨ad109, e109, hx109_0⟩ := Kd.at_int HR108_0.out a2 p109 q109
                                cases e109
                                replace p109 := eq_true p109
                                replace q109 := eq_true q109
                                have p110 : 0 ≤ (x7_1 : Int) := of_decide_eq_true (by first | (with_reducible assumption) | assumption)
                                have q110 : x7_1 < (l0.length : Int) := of_decide_eq_true (by first | (with_reducible assumption) | assumption)
                                obtain ⟨ad110, A110_0, c110_0, e110, hx110_0, hl110_0, hi110_0⟩ := at_L1 HR0.out x7_1 p110 q110
                                obtain rfl : ad106 = ad110 := (by injection e110)
                                have HR110_0 := Aside0.mk hi110_0
                                have HC110_0 := Aside0.mk hl110_0
                                clear hi110_0 hl110_0
                                replace p110 := eq_true p110
                                replace q110 := eq_true q110
                                have p111 : 0 ≤ (x8_1 : Int) := of_decide_eq_true (by first | (with_reducible assumption) | assumption)
                                have q111 : x8_1 < ((rd_L1 l0 x7_1).length : Int) := of_decide_eq_true (by first | (with_reducible assumption) | assumption)
                                obtain ⟨ad111, e111, hx111_0⟩ := Kd.at_int HR110_0.out x8_1 p111 q111
                                cases e111
                                replace p111 := eq_true p111
                                replace q111 := eq_true q111
                                go_wp2
                                go_roundg k1
                                case measure => have := HK1.out; omega
                                case rel => exact ⟨(x7_1), (wrap64 (x8_1 + 1)), (by first | rfl | (simp; done) | (simp [*]; done)), (by first | rfl | (simp; done) | (simp [*]; done)), H', ⟨by have := HK1.out; omega⟩, by repeat (first | exact Drawn0.refl _ | apply Drawn0.step)⟩
                            · rw [if_neg c15] at H
                              exact absurd H (by simp)
                          · rw [if_neg c14] at H
                            exact absurd H (by simp)
                        · rw [if_neg c13] at H
                          exact absurd H (by simp)
                    · rw [if_neg c11] at H
                      have c11b0 : ((rd (rd_L1 l0 x8_1) a2) == 1) = false := beq_eq_false_iff_ne.mpr c11
                      have c11b1 : ((rd (rd_L1 l0 x8_1) a2) != 1) = true := bne_iff_ne.mpr c11
                      have H' := Aside0.mk H
                      clear H
                      have p106 : 0 ≤ (x8_1 : Int) := of_decide_eq_true (by first | (with_reducible assumption) | assumption)
                      have q106 : x8_1 < (l0.length : Int) := of_decide_eq_true (by first | (with_reducible assumption) | assumption)
                      obtain ⟨ad106, A106_0, c106_0, e106, hx106_0, hl106_0, hi106_0⟩ := at_L1 HR0.out x8_1 p106 q106
                      cases e106
                      have HR106_0 := Aside0.mk hi106_0
                      have HC106_0 := Aside0.mk hl106_0
                      clear hi106_0 hl106_0
                      replace p106 := eq_true p106
                      replace q106 := eq_true q106
                      have p107 : 0 ≤ (a1 : Int) := of_decide_eq_true (by first | (with_reducible assumption) | assumption)
                      have q107 : a1 < ((rd_L1 l0 x8_1).length : Int) := of_decide_eq_true (by first | (with_reducible assumption) | assumption)
                      obtain ⟨ad107, e107, hx107_0⟩ := Kd.at_int HR106_0.out a1 p107 q107
                      cases e107
                      replace p107 := eq_true p107
                      replace q107 := eq_true q107
                      have p108 : 0 ≤ (x8_1 : Int) := of_decide_eq_true (by first | (with_reducible assumption) | assumption)
                      have q108 : x8_1 < (l0.length : Int) := of_decide_eq_true (by first | (with_reducible assumption) | assumption)
                      obtain ⟨ad108, A108_0, c108_0, e108, hx108_0, hl108_0, hi108_0⟩ := at_L1 HR0.out x8_1 p108 q108
                      obtain rfl : ad106 = ad108 := (by injection e108)
                      have HR108_0 := Aside0.mk hi108_0
                      have HC108_0 := Aside0.mk hl108_0
                      clear hi108_0 hl108_0
                      replace p108 := eq_true p108
                      replace q108 := eq_true q108
                      have ea_ := Option.some.inj (hx106_0.symm.trans hx108_0)
                      injection ea_ with ea_ en_ ec_
                      subst ea_
                      subst ec_
                      clear en_
                      have p109 : 0 ≤ (a2 : Int) := of_decide_eq_true (by first | (with_reducible assumption) | assumption)
                      have q109 : a2 < ((rd_L1 l0 x8_1).length : Int) := of_decide_eq_true (by first | (with_reducible assumption) | assumption)
                      obtain ⟨ad109, e109, hx109_0⟩ := Kd.at_int HR108_0.out a2 p109 q109
                      cases e109
                      replace p109 := eq_true p109
                      replace q109 := eq_true q109
                      go_wp2
                      go_roundg k1
                      case measure => have := HK1.out; omega
                      case rel => exact ⟨(x7_1), (wrap64 (x8_1 + 1)), (by first | rfl | (simp; done) | (simp [*]; done)), (by first | rfl | (simp; done) | (simp [*]; done)), H', ⟨by have := HK1.out; omega⟩, by repeat (first | exact Drawn0.refl _ | apply Drawn0.step)⟩
                  · rw [if_neg c10] at H
                    exact absurd H (by simp)
                · rw [if_neg c9] at H
                  exact absurd H (by simp)
              · rw [if_neg c8] at H
                have c8b0 : ((rd (rd_L1 l0 x8_1) a1) == 1) = false := beq_eq_false_iff_ne.mpr c8
                have c8b1 : ((rd (rd_L1 l0 x8_1) a1) != 1) = true := bne_iff_ne.mpr c8
                have H' := Aside0.mk H
                clear H
                have p106 : 0 ≤ (x8_1 : Int) := of_decide_eq_true (by first | (with_reducible assumption) | assumption)
                have q106 : x8_1 < (l0.length : Int) := of_decide_eq_true (by first | (with_reducible assumption) | assumption)
                obtain ⟨ad106, A106_0, c106_0, e106, hx106_0, hl106_0, hi106_0⟩ := at_L1 HR0.out x8_1 p106 q106
                cases e106
                have HR106_0 := Aside0.mk hi106_0
                have HC106_0 := Aside0.mk hl106_0
                clear hi106_0 hl106_0
                replace p106 := eq_true p106
                replace q106 := eq_true q106
                have p107 : 0 ≤ (a1 : Int) := of_decide_eq_true (by first | (with_reducible assumption) | assumption)
                have q107 : a1 < ((rd_L1 l0 x8_1).length : Int) := of_decide_eq_true (by first | (with_reducible assumption) | assumption)
                obtain ⟨ad107, e107, hx107_0⟩ := Kd.at_int HR106_0.out a1 p107 q107
                cases e107
                replace p107 := eq_true p107
                replace q107 := eq_true q107
                go_wp2
                go_roundg k1
                case measure => have := HK1.out; omega
                case rel => exact ⟨(x7_1), (wrap64 (x8_1 + 1)), (by first | rfl | (simp; done) | (simp [*]; done)), (by first | rfl | (simp; done) | (simp [*]; done)), H', ⟨by have := HK1.out; omega⟩, by repeat (first | exact Drawn0.refl _ | apply Drawn0.step)⟩
            · rw [if_neg c7] at H
              exact absurd H (by simp)
          · rw [if_neg c6] at H
            exact absurd H (by simp)
        · rw [if_neg c5] at H
          exact absurd H (by simp)
      · rw [if_neg c4] at H
        have c4b0 : decide (x8_1 < (l0.length : Int)) = false := decide_eq_false c4
        clear c4
        have H' := Aside0.mk H
        clear H
        go_wp2
        go_loopg [9] k1 (fun kq v9 w' => ∃ (x9_2 : Int), v9 = .int .i64 x9_2 ∧ Aside0 (spec_l1Meet.l1 kq l0 a1 a2 x7_1 x9_2 = some r) ∧ Aside0 (kq ≤ k1) ∧ Drawn0 w w')
        case atStart => exact ⟨(0), (by first | rfl | (simp; done) | (simp [*]; done)), H', ⟨Nat.le_refl _⟩, by repeat (first | exact Drawn0.refl _ | apply Drawn0.step)⟩
        case round =>
          clear H'
          try clear c1
          try clear p1
          try clear q1
          try clear hx1
          try clear p2
          try clear c4
          try clear c4b0
          try clear c5
          try clear c5b0
          try clear c6
          try clear c6b0
          try clear p6
          try clear c7
          try clear c7b0
          try clear c8
          try clear c8b0
          try clear c8b1
          try clear c9
          try clear c9b0
          try clear c10
          try clear c10b0
          try clear p10
          try clear q10
          try clear hx10
          try clear c11
          try clear c11b0
          try clear c11b1
          try clear p11
          try clear q11
          try clear hx11
          try clear c12
          try clear c12b0
          try clear c13
          try clear c13b0
          try clear c14
          try clear c14b0
          try clear c15
          try clear c15b0
          try clear c16
          try clear c16b0
          try clear c16b1
          try clear hx106_0
          try clear hx107_0
          try clear hx108_0
          try clear hx109_0
          try clear hx110_0
          try clear hx111_0
          try clear p106
          try clear p107
          try clear p108
          try clear p109
          try clear p110
          try clear p111
          try clear p2
          try clear q106
          try clear q107
          try clear q108
          try clear q109
          try clear q110
          try clear q111
          obtain ⟨x9_2, rfl, HA, HK2, ⟨m2, rfl⟩⟩ := hrel
          cases gk with
          | zero => exact absurd HA.out (by simp [spec_l1Meet.l1])
          | succ k2 =>
            have H := HA.out
            clear HA
            simp only [spec_l1Meet.l1] at H
            by_cases c17 : x9_2 < (l0.length : Int)
            · rw [if_pos c17] at H
              have c17b0 : decide (x9_2 < (l0.length : Int)) = true := decide_eq_true c17
              clear c17
              by_cases c18 : 0 ≤ x9_2
              · rw [if_pos c18] at H
                have c18b0 : decide (0 ≤ x9_2) = true := decide_eq_true c18
                clear c18
                by_cases c19 : 0 ≤ a1
                · rw [if_pos c19] at H
                  have c19b0 : decide (0 ≤ a1) = true := decide_eq_true c19
                  clear c19
                  by_cases c20 : a1 < ((rd_L1 l0 x9_2).length : Int)
                  · rw [if_pos c20] at H
                    have c20b0 : decide (a1 < ((rd_L1 l0 x9_2).length : Int)) = true := decide_eq_true c20
                    clear c20
                    by_cases c21 : (rd (rd_L1 l0 x9_2) a1) = 1
                    · rw [if_pos c21] at H
                      have c21b0 : ((rd (rd_L1 l0 x9_2) a1) == 1) = true := beq_iff_eq.mpr c21
                      have c21b1 : ((rd (rd_L1 l0 x9_2) a1) != 1) = false := bne_eq_false_iff_eq.mpr c21
                      clear c21
                      by_cases c22 : 0 ≤ a2
                      · rw [if_pos c22] at H
                        have c22b0 : decide (0 ≤ a2) = true := decide_eq_true c22
                        clear c22
                        by_cases c23 : a2 < ((rd_L1 l0 x9_2).length : Int)
                        · rw [if_pos c23] at H
                          have c23b0 : decide (a2 < ((rd_L1 l0 x9_2).length : Int)) = true := decide_eq_true c23
                          clear c23
                          by_cases c24 : (rd (rd_L1 l0 x9_2) a2) = 1
                          · rw [if_pos c24] at H
                            have c24b0 : ((rd (rd_L1 l0 x9_2) a2) == 1) = true := beq_iff_eq.mpr c24
                            have c24b1 : ((rd (rd_L1 l0 x9_2) a2) != 1) = false := bne_eq_false_iff_eq.mpr c24
                            clear c24
                            by_cases c25 : 0 ≤ x7_1
                            · rw [if_pos c25] at H
                              have c25b0 : decide (0 ≤ x7_1) = true := decide_eq_true c25
                              clear c25
                              by_cases c26 : x7_1 < ((rd_L1 l0 x9_2).length : Int)
                              · rw [if_pos c26] at H
                                have c26b0 : decide (x7_1 < ((rd_L1 l0 x9_2).length : Int)) = true := decide_eq_true c26
                                clear c26
                                by_cases c27 : (rd (rd_L1 l0 x9_2) x7_1) = 0
                                · rw [if_pos c27] at H
                                  have c27b0 : ((rd (rd_L1 l0 x9_2) x7_1) == 0) = true := beq_iff_eq.mpr c27
                                  have c27b1 : ((rd (rd_L1 l0 x9_2) x7_1) != 0) = false := bne_eq_false_iff_eq.mpr c27
                                  clear c27
                                  obtain rfl := Option.some.inj H
                                  have p112 : 0 ≤ (x9_2 : Int) := of_decide_eq_true (by first | (with_reducible assumption) | assumption)
                                  have q112 : x9_2 < (l0.length : Int) := of_decide_eq_true (by first | (with_reducible assumption) | assumption)
                                  obtain ⟨ad112, A112_0, c112_0, e112, hx112_0, hl112_0, hi112_0⟩ := at_L1 HR0.out x9_2 p112 q112
                                  cases e112
                                  have HR112_0 := Aside0.mk hi112_0
                                  have HC112_0 := Aside0.mk hl112_0
                                  clear hi112_0 hl112_0
                                  replace p112 := eq_true p112
                                  replace q112 := eq_true q112
                                  have p113 : 0 ≤ (a1 : Int) := of_decide_eq_true (by first | (with_reducible assumption) | assumption)
                                  have q113 : a1 < ((rd_L1 l0 x9_2).length : Int) := of_decide_eq_true (by first | (with_reducible assumption) | assumption)
                                  obtain ⟨ad113, e113, hx113_0⟩ := Kd.at_int HR112_0.out a1 p113 q113
                                  cases e113
                                  replace p113 := eq_true p113
                                  replace q113 := eq_true q113
                                  have p114 : 0 ≤ (x9_2 : Int) := of_decide_eq_true (by first | (with_reducible assumption) | assumption)
                                  have q114 : x9_2 < (l0.length : Int) := of_decide_eq_true (by first | (with_reducible assumption) | assumption)
                                  obtain ⟨ad114, A114_0, c114_0, e114, hx114_0, hl114_0, hi114_0⟩ := at_L1 HR0.out x9_2 p114 q114
                                  obtain rfl : ad112 = ad114 := (by injection e114)
                                  have HR114_0 := Aside0.mk hi114_0
                                  have HC114_0 := Aside0.mk hl114_0
                                  clear hi114_0 hl114_0
                                  replace p114 := eq_true p114
                                  replace q114 := eq_true q114
                                  have ea_ := Option.some.inj (hx112_0.symm.trans hx114_0)
                                  injection ea_ with ea_ en_ ec_
                                  subst ea_
                                  subst ec_
                                  clear en_
                                  have p115 : 0 ≤ (a2 : Int) := of_decide_eq_true (by first | (with_reducible assumption) | assumption)
                                  have q115 : a2 < ((rd_L1 l0 x9_2).length : Int) := of_decide_eq_true (by first | (with_reducible assumption) | assumption)
                                  obtain ⟨ad115, e115, hx115_0⟩ := Kd.at_int HR114_0.out a2 p115 q115
                                  cases e115
                                  replace p115 := eq_true p115
                                  replace q115 := eq_true q115
                                  have p116 : 0 ≤ (x9_2 : Int) := of_decide_eq_true (by first | (with_reducible assumption) | assumption)
                                  have q116 : x9_2 < (l0.length : Int) := of_decide_eq_true (by first | (with_reducible assumption) | assumption)
                                  obtain ⟨ad116, A116_0, c116_0, e116, hx116_0, hl116_0, hi116_0⟩ := at_L1 HR0.out x9_2 p116 q116
                                  obtain rfl : ad112 = ad116 := (by injection e116)
                                  have HR116_0 := Aside0.mk hi116_0
                                  have HC116_0 := Aside0.mk hl116_0
                                  clear hi116_0 hl116_0
                                  replace p116 := eq_true p116
                                  replace q116 := eq_true q116
                                  have ea_ := Option.some.inj (hx112_0.symm.trans hx116_0)
                                  injection ea_ with ea_ en_ ec_
                                  subst ea_
                                  subst ec_
                                  clear en_
                                  have p117 : 0 ≤ (x7_1 : Int) := of_decide_eq_true (by first | (with_reducible assumption) | assumption)
                                  have q117 : x7_1 < ((rd_L1 l0 x9_2).length : Int) := of_decide_eq_true (by first | (with_reducible assumption) | assumption)
                                  obtain ⟨ad117, e117, hx117_0⟩ := Kd.at_int HR116_0.out x7_1 p117 q117
                                  cases e117
                                  replace p117 := eq_true p117
                                  replace q117 := eq_true q117
                                  go_wp2
                                  go_ret
                                  exact ⟨by first | rfl | (simp; done) | (simp [*]; done), by repeat (first | exact Drawn0.refl _ | apply Drawn0.step)⟩
                                · rw [if_neg c27] at H
                                  have c27b0 : ((rd (rd_L1 l0 x9_2) x7_1) == 0) = false := beq_eq_false_iff_ne.mpr c27
                                  have c27b1 : ((rd (rd_L1 l0 x9_2) x7_1) != 0) = true := bne_iff_ne.mpr c27
                                  have H' := Aside0.mk H
                                  clear H
                                  have p112 : 0 ≤ (x9_2 : Int) := of_decide_eq_true (by first | (with_reducible assumption) | assumption)
                                  have q112 : x9_2 < (l0.length : Int) := of_decide_eq_true (by first | (with_reducible assumption) | assumption)
                                  obtain ⟨ad112, A112_0, c112_0, e112, hx112_0, hl112_0, hi112_0⟩ := at_L1 HR0.out x9_2 p112 q112
                                  cases e112
                                  have HR112_0 := Aside0.mk hi112_0
                                  have HC112_0 := Aside0.mk hl112_0
                                  clear hi112_0 hl112_0
                                  replace p112 := eq_true p112
                                  replace q112 := eq_true q112
                                  have p113 : 0 ≤ (a1 : Int) := of_decide_eq_true (by first | (with_reducible assumption) | assumption)
                                  have q113 : a1 < ((rd_L1 l0 x9_2).length : Int) := of_decide_eq_true (by first | (with_reducible assumption) | assumption)
                                  obtain ⟨ad113, e113, hx113_0⟩ := Kd.at_int HR112_0.out a1 p113 q113
                                  cases e113
                                  replace p113 := eq_true p113
                                  replace q113 := eq_true q113
                                  have p114 : 0 ≤ (x9_2 : Int) := of_decide_eq_true (by first | (with_reducible assumption) | assumption)
                                  have q114 : x9_2 < (l0.length : Int) := of_decide_eq_true (by first | (with_reducible assumption) | assumption)
                                  obtain ⟨ad114, A114_0, c114_0, e114, hx114_0, hl114_0, hi114_0⟩ := at_L1 HR0.out x9_2 p114 q114
                                  obtain rfl : ad112 = ad114 := (by injection e114)
                                  have HR114_0 := Aside0.mk hi114_0
                                  have HC114_0 := Aside0.mk hl114_0
                                  clear hi114_0 hl114_0
                                  replace p114 := eq_true p114
                                  replace q114 := eq_true q114
                                  have ea_ := Option.some.inj (hx112_0.symm.trans hx114_0)
                                  injection ea_ with ea_ en_ ec_
                                  subst ea_
                                  subst ec_
                                  clear en_
                                  have p115 : 0 ≤ (a2 : Int) := of_decide_eq_true (by first | (with_reducible assumption) | assumption)
                                  have q115 : a2 < ((rd_L1 l0 x9_2).length : Int) := of_decide_eq_true (by first | (with_reducible assumption) | assumption)
                                  obtain ⟨ad115, e115, hx115_0⟩ := Kd.at_int HR114_0.out a2 p115 q115
                                  cases e115
                                  replace p115 := eq_true p115
                                  replace q115 := eq_true q115
                                  have p116 : 0 ≤ (x9_2 : Int) := of_decide_eq_true (by first | (with_reducible assumption) | assumption)
                                  have q116 : x9_2 < (l0.length : Int) := of_decide_eq_true (by first | (with_reducible assumption) | assumption)
                                  obtain ⟨ad116, A116_0, c116_0, e116, hx116_0, hl116_0, hi116_0⟩ := at_L1 HR0.out x9_2 p116 q116
                                  obtain rfl : ad112 = ad116 := (by injection e116)
                                  have HR116_0 := Aside0.mk hi116_0
                                  have HC116_0 := Aside0.mk hl116_0
                                  clear hi116_0 hl116_0
                                  replace p116 := eq_true p116
                                  replace q116 := eq_true q116
                                  have ea_ := Option.some.inj (hx112_0.symm.trans hx116_0)
                                  injection ea_ with ea_ en_ ec_
                                  subst ea_
                                  subst ec_
                                  clear en_
                                  have p117 : 0 ≤ (x7_1 : Int) := of_decide_eq_true (by first | (with_reducible assumption) | assumption)
                                  have q117 : x7_1 < ((rd_L1 l0 x9_2).length : Int) := of_decide_eq_true (by first | (with_reducible assumption) | assumption)
                                  obtain ⟨ad117, e117, hx117_0⟩ := Kd.at_int HR116_0.out x7_1 p117 q117
                                  cases e117
                                  replace p117 := eq_true p117
                                  replace q117 := eq_true q117
                                  go_wp2
                                  go_roundg k2
                                  case measure => have := HK1.out; have := HK2.out; omega
                                  case rel => exact ⟨(wrap64 (x9_2 + 1)), (by first | rfl | (simp; done) | (simp [*]; done)), H', ⟨by have := HK1.out; have := HK2.out; omega⟩, by repeat (first | exact Drawn0.refl _ | apply Drawn0.step)⟩
                              · rw [if_neg c26] at H
                                exact absurd H (by simp)
                            · rw [if_neg c25] at H
                              exact absurd H (by simp)
                          · rw [if_neg c24] at H
                            have c24b0 : ((rd (rd_L1 l0 x9_2) a2) == 1) = false := beq_eq_false_iff_ne.mpr c24
                            have c24b1 : ((rd (rd_L1 l0 x9_2) a2) != 1) = true := bne_iff_ne.mpr c24
                            have H' := Aside0.mk H
                            clear H
                            have p112 : 0 ≤ (x9_2 : Int) := of_decide_eq_true (by first | (with_reducible assumption) | assumption)
                            have q112 : x9_2 < (l0.length : Int) := of_decide_eq_true (by first | (with_reducible assumption) | assumption)
                            obtain ⟨ad112, A112_0, c112_0, e112, hx112_0, hl112_0, hi112_0⟩ := at_L1 HR0.out x9_2 p112 q112
                            cases e112
                            have HR112_0 := Aside0.mk hi112_0
                            have HC112_0 := Aside0.mk hl112_0
                            clear hi112_0 hl112_0
                            replace p112 := eq_true p112
                            replace q112 := eq_true q112
                            have p113 : 0 ≤ (a1 : Int) := of_decide_eq_true (by first | (with_reducible assumption) | assumption)
                            have q113 : a1 < ((rd_L1 l0 x9_2).length : Int) := of_decide_eq_true (by first | (with_reducible assumption) | assumption)
                            obtain ⟨ad113, e113, hx113_0⟩ := Kd.at_int HR112_0.out a1 p113 q113
                            cases e113
                            replace p113 := eq_true p113
                            replace q113 := eq_true q113
                            have p114 : 0 ≤ (x9_2 : Int) := of_decide_eq_true (by first | (with_reducible assumption) | assumption)
                            have q114 : x9_2 < (l0.length : Int) := of_decide_eq_true (by first | (with_reducible assumption) | assumption)
                            obtain ⟨ad114, A114_0, c114_0, e114, hx114_0, hl114_0, hi114_0⟩ := at_L1 HR0.out x9_2 p114 q114
                            obtain rfl : ad112 = ad114 := (by injection e114)
                            have HR114_0 := Aside0.mk hi114_0
                            have HC114_0 := Aside0.mk hl114_0
                            clear hi114_0 hl114_0
                            replace p114 := eq_true p114
                            replace q114 := eq_true q114
                            have ea_ := Option.some.inj (hx112_0.symm.trans hx114_0)
                            injection ea_ with ea_ en_ ec_
                            subst ea_
                            subst ec_
                            clear en_
                            have p115 : 0 ≤ (a2 : Int) := of_decide_eq_true (by first | (with_reducible assumption) | assumption)
                            have q115 : a2 < ((rd_L1 l0 x9_2).length : Int) := of_decide_eq_true (by first | (with_reducible assumption) | assumption)
                            obtain ⟨ad115, e115, hx115_0⟩ := Kd.at_int HR114_0.out a2 p115 q115
                            cases e115
                            replace p115 := eq_true p115
                            replace q115 := eq_true q115
                            go_wp2
                            go_roundg k2
                            case measure => have := HK1.out; have := HK2.out; omega
                            case rel => exact ⟨(wrap64 (x9_2 + 1)), (by first | rfl | (simp; done) | (simp [*]; done)), H', ⟨by have := HK1.out; have := HK2.out; omega⟩, by repeat (first | exact Drawn0.refl _ | apply Drawn0.step)⟩
                        · rw [if_neg c23] at H
                          exact absurd H (by simp)
                      · rw [if_neg c22] at H
                        exact absurd H (by simp)
                    · rw [if_neg c21] at H
                      have c21b0 : ((rd (rd_L1 l0 x9_2) a1) == 1) = false := beq_eq_false_iff_ne.mpr c21
                      have c21b1 : ((rd (rd_L1 l0 x9_2) a1) != 1) = true := bne_iff_ne.mpr c21
                      have H' := Aside0.mk H
                      clear H
                      have p112 : 0 ≤ (x9_2 : Int) := of_decide_eq_true (by first | (with_reducible assumption) | assumption)
                      have q112 : x9_2 < (l0.length : Int) := of_decide_eq_true (by first | (with_reducible assumption) | assumption)
                      obtain ⟨ad112, A112_0, c112_0, e112, hx112_0, hl112_0, hi112_0⟩ := at_L1 HR0.out x9_2 p112 q112
                      cases e112
                      have HR112_0 := Aside0.mk hi112_0
                      have HC112_0 := Aside0.mk hl112_0
                      clear hi112_0 hl112_0
                      replace p112 := eq_true p112
                      replace q112 := eq_true q112
                      have p113 : 0 ≤ (a1 : Int) := of_decide_eq_true (by first | (with_reducible assumption) | assumption)
                      have q113 : a1 < ((rd_L1 l0 x9_2).length : Int) := of_decide_eq_true (by first | (with_reducible assumption) | assumption)
                      obtain ⟨ad113, e113, hx113_0⟩ := Kd.at_int HR112_0.out a1 p113 q113
                      cases e113
                      replace p113 := eq_true p113
                      replace q113 := eq_true q113
                      go_wp2
                      go_roundg k2
                      case measure => have := HK1.out; have := HK2.out; omega
                      case rel => exact ⟨(wrap64 (x9_2 + 1)), (by first | rfl | (simp; done) | (simp [*]; done)), H', ⟨by have := HK1.out; have := HK2.out; omega⟩, by repeat (first | exact Drawn0.refl _ | apply Drawn0.step)⟩
                  · rw [if_neg c20] at H
                    exact absurd H (by simp)
                · rw [if_neg c19] at H
                  exact absurd H (by simp)
              · rw [if_neg c18] at H
                exact absurd H (by simp)
            · rw [if_neg c17] at H
              have c17b0 : decide (x9_2 < (l0.length : Int)) = false := decide_eq_false c17
              clear c17
              obtain rfl := Option.some.inj H
              go_wp2
              go_ret
              exact ⟨by first | rfl | (simp; done) | (simp [*]; done), by repeat (first | exact Drawn0.refl _ | apply Drawn0.step)⟩
end Go.Proofs.Ythideghgdmokkaa.Print
end
section
namespace Go.Proofs.Ythideghgdmokkaa.Print
open Go.RowKit Go.Proofs.YthideghgdmokkaaW.PrintWords Go.Proofs.YthideghgdmokkaaW.PrintLast Go.Proofs.YthideghgdmokkaaW.PrintMore
attribute [local go_sem] max2_int min2_int max_two min_two max_three min_three max_four min_four   -- for this text's walks alone
set_option linter.unusedVariables false
set_option linter.unusedSimpArgs false
mutual
def spec_l1Join.l0 : Nat → List (List Int) → Int → Int → Int → Int → Option (Int)
  | 0, _, _, _, _, _ => none
  | k + 1, x0, x1, x2, x7, x8 => if x8 < (x0.length : Int) then (if 0 ≤ x1 then (if x1 < (x0.length : Int) then (if 0 ≤ x8 then (if x8 < ((rd_L1 x0 x1).length : Int) then (if (rd (rd_L1 x0 x1) x8) = 1 then (if 0 ≤ x2 then (if x2 < (x0.length : Int) then (if x8 < ((rd_L1 x0 x2).length : Int) then (if (rd (rd_L1 x0 x2) x8) = 1 then (if x7 < 0 then (spec_l1Join.l0 k x0 x1 x2 x8 (wrap64 (x8 + 1))) else (if 0 ≤ x7 then (if x7 < ((rd_L1 x0 x8).length : Int) then (if (rd (rd_L1 x0 x8) x7) = 1 then (spec_l1Join.l0 k x0 x1 x2 x8 (wrap64 (x8 + 1))) else (spec_l1Join.l0 k x0 x1 x2 x7 (wrap64 (x8 + 1)))) else (none)) else (none))) else (spec_l1Join.l0 k x0 x1 x2 x7 (wrap64 (x8 + 1)))) else (none)) else (none)) else (none)) else (spec_l1Join.l0 k x0 x1 x2 x7 (wrap64 (x8 + 1)))) else (none)) else (none)) else (none)) else (none)) else (spec_l1Join.l1 k x0 x1 x2 x7 0)
def spec_l1Join.l1 : Nat → List (List Int) → Int → Int → Int → Int → Option (Int)
  | 0, _, _, _, _, _ => none
  | k + 1, x0, x1, x2, x7, x9 => if x9 < (x0.length : Int) then (if 0 ≤ x1 then (if x1 < (x0.length : Int) then (if 0 ≤ x9 then (if x9 < ((rd_L1 x0 x1).length : Int) then (if (rd (rd_L1 x0 x1) x9) = 1 then (if 0 ≤ x2 then (if x2 < (x0.length : Int) then (if x9 < ((rd_L1 x0 x2).length : Int) then (if (rd (rd_L1 x0 x2) x9) = 1 then (if 0 ≤ x7 then (if x7 < (x0.length : Int) then (if x9 < ((rd_L1 x0 x7).length : Int) then (if (rd (rd_L1 x0 x7) x9) = 0 then (some (-1)) else (spec_l1Join.l1 k x0 x1 x2 x7 (wrap64 (x9 + 1)))) else (none)) else (none)) else (none)) else (spec_l1Join.l1 k x0 x1 x2 x7 (wrap64 (x9 + 1)))) else (none)) else (none)) else (none)) else (spec_l1Join.l1 k x0 x1 x2 x7 (wrap64 (x9 + 1)))) else (none)) else (none)) else (none)) else (none)) else (some x7)
end
def spec_l1Join.f (k : Nat) (l0 : List (List Int)) (a1 : Int) (a2 : Int) : Option (Int) := spec_l1Join.l0 k l0 a1 a2 (-1) 0
set_option maxHeartbeats 8000000 in
set_option maxRecDepth 100000 in
theorem spec_l1Join.calls (k : Nat) (A0 : Option Addr) (c0 : Nat) (l0 : List (List Int)) (a1 : Int) (a2 : Int) (r : Int) (w : World) (hr0 : Kd.C (Kd.slice 3 (Kd.int .i64)) w A0 l0.length l0) (hc0 : l0.length ≤ c0) (h : spec_l1Join.f k l0 a1 a2 = some r) :
    Calls Try.prog 102 #[.slice A0 l0.length c0, .int .i64 a1, .int .i64 a2] w fun e w' => e = .returned (.int .i64 r) ∧ Drawn0 w w' := by
  have HR0 := Aside0.mk hr0
  have HC0 := Aside0.mk hc0
  clear hr0 hc0
  have H : (spec_l1Join.l0 k l0 a1 a2 (-1) 0) = some r := h
  clear h
  have H' := Aside0.mk H
  clear H
  go_enter Try.func102, Try.ntmps102
  go_wp2
  go_loopg [7, 8] k (fun kq v7 v8 w' => ∃ (x7_1 : Int) (x8_1 : Int), v7 = .int .i64 x7_1 ∧ v8 = .int .i64 x8_1 ∧ Aside0 (spec_l1Join.l0 kq l0 a1 a2 x7_1 x8_1 = some r) ∧ Aside0 (kq ≤ k) ∧ Drawn0 w w')
  case atStart => exact ⟨((-1)), (0), (by first | rfl | (simp; done) | (simp [*]; done)), (by first | rfl | (simp; done) | (simp [*]; done)), H', ⟨Nat.le_refl _⟩, by repeat (first | exact Drawn0.refl _ | apply Drawn0.step)⟩
  case round =>
    clear H'
    try clear c1
    try clear p2
    obtain ⟨x7_1, x8_1, rfl, rfl, HA, HK1, ⟨m1, rfl⟩⟩ := hrel
    cases gk with
    | zero => exact absurd HA.out (by simp [spec_l1Join.l0])
    | succ k1 =>
      have H := HA.out
      clear HA
      simp only [spec_l1Join.l0] at H
      by_cases c4 : x8_1 < (l0.length : Int)
      · rw [if_pos c4] at H
        have c4b0 : decide (x8_1 < (l0.length : Int)) = true := decide_eq_true c4
        clear c4
        by_cases c5 : 0 ≤ a1
        · rw [if_pos c5] at H
          have c5b0 : decide (0 ≤ a1) = true := decide_eq_true c5
          clear c5
          by_cases c6 : a1 < (l0.length : Int)
          · rw [if_pos c6] at H
            have c6b0 : decide (a1 < (l0.length : Int)) = true := decide_eq_true c6
            clear c6
            by_cases c7 : 0 ≤ x8_1
            · rw [if_pos c7] at H
              have c7b0 : decide (0 ≤ x8_1) = true := decide_eq_true c7
              clear c7
              by_cases c8 : x8_1 < ((rd_L1 l0 a1).length : Int)
              · rw [if_pos c8] at H
                have c8b0 : decide (x8_1 < ((rd_L1 l0 a1).length : Int)) = true := decide_eq_true c8
                clear c8
                by_cases c9 : (rd (rd_L1 l0 a1) x8_1) = 1
                · rw [if_pos c9] at H
                  have c9b0 : ((rd (rd_L1 l0 a1) x8_1) == 1) = true := beq_iff_eq.mpr c9
                  have c9b1 : ((rd (rd_L1 l0 a1) x8_1) != 1) = false := bne_eq_false_iff_eq.mpr c9
                  clear c9
                  by_cases c10 : 0 ≤ a2
                  · rw [if_pos c10] at H
                    have c10b0 : decide (0 ≤ a2) = true := decide_eq_true c10
                    clear c10
                    by_cases c11 : a2 < (l0.length : Int)
                    · rw [if_pos c11] at H
                      have c11b0 : decide (a2 < (l0.length : Int)) = true := decide_eq_true c11
                      clear c11
                      by_cases c12 : x8_1 < ((rd_L1 l0 a2).length : Int)
                      · rw [if_pos c12] at H
                        have c12b0 : decide (x8_1 < ((rd_L1 l0 a2).length : Int)) = true := decide_eq_true c12
                        clear c12
                        by_cases c13 : (rd (rd_L1 l0 a2) x8_1) = 1
                        · rw [if_pos c13] at H
                          have c13b0 : ((rd (rd_L1 l0 a2) x8_1) == 1) = true := beq_iff_eq.mpr c13
                          have c13b1 : ((rd (rd_L1 l0 a2) x8_1) != 1) = false := bne_eq_false_iff_eq.mpr c13
                          clear c13
                          by_cases c14 : x7_1 < 0
                          · rw [if_pos c14] at H
                            have c14b0 : decide (x7_1 < 0) = true := decide_eq_true c14
                            clear c14
                            have H' := Aside0.mk H
                            clear H
                            have p118 : 0 ≤ (a1 : Int) := of_decide_eq_true (by first | (with_reducible assumption) | assumption)
                            have q118 : a1 < (l0.length : Int) := of_decide_eq_true (by first | (with_reducible assumption) | assumption)
                            obtain ⟨ad118, A118_0, c118_0, e118, hx118_0, hl118_0, hi118_0⟩ := at_L1 HR0.out a1 p118 q118
                            cases e118
                            have HR118_0 := Aside0.mk hi118_0
                            have HC118_0 := Aside0.mk hl118_0
                            clear hi118_0 hl118_0
                            replace p118 := eq_true p118
                            replace q118 := eq_true q118
                            have p119 : 0 ≤ (x8_1 : Int) := of_decide_eq_true (by first | (with_reducible assumption) | assumption)
                            have q119 : x8_1 < ((rd_L1 l0 a1).length : Int) := of_decide_eq_true (by first | (with_reducible assumption) | assumption)
                            obtain ⟨ad119, e119, hx119_0⟩ := Kd.at_int HR118_0.out x8_1 p119 q119
                            cases e119
                            replace p119 := eq_true p119
                            replace q119 := eq_true q119
                            have p120 : 0 ≤ (a2 : Int) := of_decide_eq_true (by first | (with_reducible assumption) | assumption)
                            have q120 : a2 < (l0.length : Int) := of_decide_eq_true (by first | (with_reducible assumption) | assumption)
                            obtain ⟨ad120, A120_0, c120_0, e120, hx120_0, hl120_0, hi120_0⟩ := at_L1 HR0.out a2 p120 q120
                            obtain rfl : ad118 = ad120 := (by injection e120)
                            have HR120_0 := Aside0.mk hi120_0
                            have HC120_0 := Aside0.mk hl120_0
                            clear hi120_0 hl120_0
                            replace p120 := eq_true p120
                            replace q120 := eq_true q120
                            have p121 : 0 ≤ (x8_1 : Int) := of_decide_eq_true (by first | (with_reducible assumption) | assumption)
                            have q121 : x8_1 < ((rd_L1 l0 a2).length : Int) := of_decide_eq_true (by first | (with_reducible assumption) | assumption)
                            obtain ⟨ad121, e121, hx121_0⟩ := Kd.at_int HR120_0.out x8_1 p121 q121
                            cases e121
                            replace p121 := eq_true p121
                            replace q121 := eq_true q121
                            go_wp2
                            go_roundg k1
                            case measure => have := HK1.out; omega
                            case rel => exact ⟨(x8_1), (wrap64 (x8_1 + 1)), (by first | rfl | (simp; done) | (simp [*]; done)), (by first | rfl | (simp; done) | (simp [*]; done)), H', ⟨by have := HK1.out; omega⟩, by repeat (first | exact Drawn0.refl _ | apply Drawn0.step)⟩
                          · rw [if_neg c14] at H
                            have c14b0 : decide (x7_1 < 0) = false := decide_eq_false c14
                            clear c14
                            by_cases c15 : 0 ≤ x7_1
                            · rw [if_pos c15] at H
                              have c15b0 : decide (0 ≤ x7_1) = true := decide_eq_true c15
                              clear c15
                              by_cases c16 : x7_1 < ((rd_L1 l0 x8_1).length : Int)
                              · rw [if_pos c16] at H
                                have c16b0 : decide (x7_1 < ((rd_L1 l0 x8_1).length : Int)) = true := decide_eq_true c16
                                clear c16
                                by_cases c17 : (rd (rd_L1 l0 x8_1) x7_1) = 1
                                · rw [if_pos c17] at H
                                  have c17b0 : ((rd (rd_L1 l0 x8_1) x7_1) == 1) = true := beq_iff_eq.mpr c17
                                  have c17b1 : ((rd (rd_L1 l0 x8_1) x7_1) != 1) = false := bne_eq_false_iff_eq.mpr c17
                                  clear c17
                                  have H' := Aside0.mk H
                                  clear H
                                  have p118 : 0 ≤ (a1 : Int) := of_decide_eq_true (by first | (with_reducible assumption) | assumption)
                                  have q118 : a1 < (l0.length : Int) := of_decide_eq_true (by first | (with_reducible assumption) | assumption)
                                  obtain ⟨ad118, A118_0, c118_0, e118, hx118_0, hl118_0, hi118_0⟩ := at_L1 HR0.out a1 p118 q118
                                  cases e118
                                  have HR118_0 := Aside0.mk hi118_0
                                  have HC118_0 := Aside0.mk hl118_0
                                  clear hi118_0 hl118_0
                                  replace p118 := eq_true p118
                                  replace q118 := eq_true q118
                                  have p119 : 0 ≤ (x8_1 : Int) := of_decide_eq_true (by first | (with_reducible assumption) | assumption)
                                  have q119 : x8_1 < ((rd_L1 l0 a1).length : Int) := of_decide_eq_true (by first | (with_reducible assumption) | assumption)
                                  obtain ⟨ad119, e119, hx119_0⟩ := Kd.at_int HR118_0.out x8_1 p119 q119
                                  cases e119
                                  replace p119 := eq_true p119
                                  replace q119 := eq_true q119
                                  have p120 : 0 ≤ (a2 : Int) := of_decide_eq_true (by first | (with_reducible assumption) | assumption)
                                  have q120 : a2 < (l0.length : Int) := of_decide_eq_true (by first | (with_reducible assumption) | assumption)
                                  obtain ⟨ad120, A120_0, c120_0, e120, hx120_0, hl120_0, hi120_0⟩ := at_L1 HR0.out a2 p120 q120
                                  obtain rfl : ad118 = ad120 := (by injection e120)
                                  have HR120_0 := Aside0.mk hi120_0
                                  have HC120_0 := Aside0.mk hl120_0
                                  clear hi120_0 hl120_0
                                  replace p120 := eq_true p120
                                  replace q120 := eq_true q120
                                  have p121 : 0 ≤ (x8_1 : Int) := of_decide_eq_true (by first | (with_reducible assumption) | assumption)
                                  have q121 : x8_1 < ((rd_L1 l0 a2).length : Int) := of_decide_eq_true (by first | (with_reducible assumption) | assumption)
                                  obtain ⟨ad121, e121, hx121_0⟩ := Kd.at_int HR120_0.out x8_1 p121 q121
                                  cases e121
                                  replace p121 := eq_true p121
                                  replace q121 := eq_true q121
                                  have p122 : 0 ≤ (x8_1 : Int) := of_decide_eq_true (by first | (with_reducible assumption) | assumption)
                                  have q122 : x8_1 < (l0.length : Int) := of_decide_eq_true (by first | (with_reducible assumption) | assumption)
                                  obtain ⟨ad122, A122_0, c122_0, e122, hx122_0, hl122_0, hi122_0⟩ := at_L1 HR0.out x8_1 p122 q122
                                  obtain rfl : ad118 = ad122 := (by injection e122)
                                  have HR122_0 := Aside0.mk hi122_0
                                  have HC122_0 := Aside0.mk hl122_0
                                  clear hi122_0 hl122_0
                                  replace p122 := eq_true p122
                                  replace q122 := eq_true q122
                                  have p123 : 0 ≤ (x7_1 : Int) := of_decide_eq_true (by first | (with_reducible assumption) | assumption)
                                  have q123 : x7_1 < ((rd_L1 l0 x8_1).length : Int) := of_decide_eq_true (by first | (with_reducible assumption) | assumption)
                                  obtain ⟨ad123, e123, hx123_0⟩ := Kd.at_int HR122_0.out x7_1 p123 q123
                                  cases e123
                                  replace p123 := eq_true p123
                                  replace q123 := eq_true q123
                                  go_wp2
                                  go_roundg k1
                                  case measure => have := HK1.out; omega
                                  case rel => exact ⟨(x8_1), (wrap64 (x8_1 + 1)), (by first | rfl | (simp; done) | (simp [*]; done)), (by first | rfl | (simp; done) | (simp [*]; done)), H', ⟨by have := HK1.out; omega⟩, by repeat (first | exact Drawn0.refl _ | apply Drawn0.step)⟩
                                · rw [if_neg c17] at H
                                  have c17b0 : ((rd (rd_L1 l0 x8_1) x7_1) == 1) = false := beq_eq_false_iff_ne.mpr c17
                                  have c17b1 : ((rd (rd_L1 l0 x8_1) x7_1) != 1) = true := bne_iff_ne.mpr c17
                                  have H' := Aside0.mk H
                                  clear H
                                  have p118 : 0 ≤ (a1 : Int) := of_decide_eq_true (by first | (with_reducible assumption) | assumption)
                                  have q118 : a1 < (l0.length : Int) := of_decide_eq_true (by first | (with_reducible assumption) | assumption)
                                  obtain ⟨ad118, A118_0, c118_0, e118, hx118_0, hl118_0, hi118_0⟩ := at_L1 HR0.out a1 p118 q118
                                  cases e118
                                  have HR118_0 := Aside0.mk hi118_0
                                  have HC118_0 := Aside0.mk hl118_0
                                  clear hi118_0 hl118_0
                                  replace p118 := eq_true p118
                                  replace q118 := eq_true q118
                                  have p119 : 0 ≤ (x8_1 : Int) := of_decide_eq_true (by first | (with_reducible assumption) | assumption)
                                  have q119 : x8_1 < ((rd_L1 l0 a1).length : Int) := of_decide_eq_true (by first | (with_reducible assumption) | assumption)
                                  obtain ⟨ad119, e119, hx119_0⟩ := Kd.at_int HR118_0.out x8_1 p119 q119
                                  cases e119
                                  replace p119 := eq_true p119
                                  replace q119 := eq_true q119
                                  have p120 : 0 ≤ (a2 : Int) := of_decide_eq_true (by first | (with_reducible assumption) | assumption)
                                  have q120 : a2 < (l0.length : Int) := of_decide_eq_true (by first | (with_reducible assumption) | assumption)
                                  obtain ⟨ad120, A120_0, c120_0, e120, hx120_0, hl120_0, hi120_0⟩ := at_L1 HR0.out a2 p120 q120
                                  obtain rfl : ad118 = ad120 := (by injection e120)
                                  have HR120_0 := Aside0.mk hi120_0
                                  have HC120_0 := Aside0.mk hl120_0
                                  clear hi120_0 hl120_0
                                  replace p120 := eq_true p120
                                  replace q120 := eq_true q120
                                  have p121 : 0 ≤ (x8_1 : Int) := of_decide_eq_true (by first | (with_reducible assumption) | assumption)
                                  have q121 : x8_1 < ((rd_L1 l0 a2).length : Int) := of_decide_eq_true (by first | (with_reducible assumption) | assumption)
                                  obtain ⟨ad121, e121, hx121_0⟩ := Kd.at_int HR120_0.out x8_1 p121 q121
                                  cases e121
                                  replace p121 := eq_true p121
                                  replace q121 := eq_true q121
                                  have p122 : 0 ≤ (x8_1 : Int) := of_decide_eq_true (by first | (with_reducible assumption) | assumption)
                                  have q122 : x8_1 < (l0.length : Int) := of_decide_eq_true (by first | (with_reducible assumption) | assumption)
                                  obtain ⟨ad122, A122_0, c122_0, e122, hx122_0, hl122_0, hi122_0⟩ := at_L1 HR0.out x8_1 p122 q122
                                  obtain rfl : ad118 = ad122 := (by injection e122)
                                  have HR122_0 := Aside0.mk hi122_0
                                  have HC122_0 := Aside0.mk hl122_0
                                  clear hi122_0 hl122_0
                                  replace p122 := eq_true p122
                                  replace q122 := eq_true q122
                                  have p123 : 0 ≤ (x7_1 : Int) := of_decide_eq_true (by first | (with_reducible assumption) | assumption)
                                  have q123 : x7_1 < ((rd_L1 l0 x8_1).length : Int) := of_decide_eq_true (by first | (with_reducible assumption) | assumption)
                                  obtain ⟨ad123, e123, hx123_0⟩ := Kd.at_int HR122_0.out x7_1 p123 q123
                                  cases e123
                                  replace p123 := eq_true p123
                                  replace q123 := eq_true q123
                                  go_wp2
                                  go_roundg k1
                                  case measure => have := HK1.out; omega
                                  case rel => exact ⟨(x7_1), (wrap64 (x8_1 + 1)), (by first | rfl | (simp; done) | (simp [*]; done)), (by first | rfl | (simp; done) | (simp [*]; done)), H', ⟨by have := HK1.out; omega⟩, by repeat (first | exact Drawn0.refl _ | apply Drawn0.step)⟩
                              · rw [if_neg c16] at H
                                exact absurd H (by simp)
                            · rw [if_neg c15] at H
                              exact absurd H (by simp)
                        · rw [if_neg c13] at H
                          have c13b0 : ((rd (rd_L1 l0 a2) x8_1) == 1) = false := beq_eq_false_iff_ne.mpr c13
                          have c13b1 : ((rd (rd_L1 l0 a2) x8_1) != 1) = true := bne_iff_ne.mpr c13
                          have H' := Aside0.mk H
                          clear H
                          have p118 : 0 ≤ (a1 : Int) := of_decide_eq_true (by first | (with_reducible assumption) | assumption)
                          have q118 : a1 < (l0.length : Int) := of_decide_eq_true (by first | (with_reducible assumption) | assumption)
                          obtain ⟨ad118, A118_0, c118_0, e118, hx118_0, hl118_0, hi118_0⟩ := at_L1 HR0.out a1 p118 q118
                          cases e118
                          have HR118_0 := Aside0.mk hi118_0
                          have HC118_0 := Aside0.mk hl118_0
                          clear hi118_0 hl118_0
                          replace p118 := eq_true p118
                          replace q118 := eq_true q118
                          have p119 : 0 ≤ (x8_1 : Int) := of_decide_eq_true (by first | (with_reducible assumption) | assumption)
                          have q119 : x8_1 < ((rd_L1 l0 a1).length : Int) := of_decide_eq_true (by first | (with_reducible assumption) | assumption)
                          obtain ⟨ad119, e119, hx119_0⟩ := Kd.at_int HR118_0.out x8_1 p119 q119
                          cases e119
                          replace p119 := eq_true p119
                          replace q119 := eq_true q119
                          have p120 : 0 ≤ (a2 : Int) := of_decide_eq_true (by first | (with_reducible assumption) | assumption)
                          have q120 : a2 < (l0.length : Int) := of_decide_eq_true (by first | (with_reducible assumption) | assumption)
                          obtain ⟨ad120, A120_0, c120_0, e120, hx120_0, hl120_0, hi120_0⟩ := at_L1 HR0.out a2 p120 q120
                          obtain rfl : ad118 = ad120 := (by injection e120)
                          have HR120_0 := Aside0.mk hi120_0
                          have HC120_0 := Aside0.mk hl120_0
                          clear hi120_0 hl120_0
                          replace p120 := eq_true p120
                          replace q120 := eq_true q120
                          have p121 : 0 ≤ (x8_1 : Int) := of_decide_eq_true (by first | (with_reducible assumption) | assumption)
                          have q121 : x8_1 < ((rd_L1 l0 a2).length : Int) := of_decide_eq_true (by first | (with_reducible assumption) | assumption)
                          obtain ⟨ad121, e121, hx121_0⟩ := Kd.at_int HR120_0.out x8_1 p121 q121
                          cases e121
                          replace p121 := eq_true p121
                          replace q121 := eq_true q121
                          go_wp2
                          go_roundg k1
                          case measure => have := HK1.out; omega
                          case rel => exact ⟨(x7_1), (wrap64 (x8_1 + 1)), (by first | rfl | (simp; done) | (simp [*]; done)), (by first | rfl | (simp; done) | (simp [*]; done)), H', ⟨by have := HK1.out; omega⟩, by repeat (first | exact Drawn0.refl _ | apply Drawn0.step)⟩
                      · rw [if_neg c12] at H
                        exact absurd H (by simp)
                    · rw [if_neg c11] at H
                      exact absurd H (by simp)
                  · rw [if_neg c10] at H
                    exact absurd H (by simp)
                · rw [if_neg c9] at H
                  have c9b0 : ((rd (rd_L1 l0 a1) x8_1) == 1) = false := beq_eq_false_iff_ne.mpr c9
                  have c9b1 : ((rd (rd_L1 l0 a1) x8_1) != 1) = true := bne_iff_ne.mpr c9
                  have H' := Aside0.mk H
                  clear H
                  have p118 : 0 ≤ (a1 : Int) := of_decide_eq_true (by first | (with_reducible assumption) | assumption)
                  have q118 : a1 < (l0.length : Int) := of_decide_eq_true (by first | (with_reducible assumption) | assumption)
                  obtain ⟨ad118, A118_0, c118_0, e118, hx118_0, hl118_0, hi118_0⟩ := at_L1 HR0.out a1 p118 q118
                  cases e118
                  have HR118_0 := Aside0.mk hi118_0
                  have HC118_0 := Aside0.mk hl118_0
                  clear hi118_0 hl118_0
                  replace p118 := eq_true p118
                  replace q118 := eq_true q118
                  have p119 : 0 ≤ (x8_1 : Int) := of_decide_eq_true (by first | (with_reducible assumption) | assumption)
                  have q119 : x8_1 < ((rd_L1 l0 a1).length : Int) := of_decide_eq_true (by first | (with_reducible assumption) | assumption)
                  obtain ⟨ad119, e119, hx119_0⟩ := Kd.at_int HR118_0.out x8_1 p119 q119
                  cases e119
                  replace p119 := eq_true p119
                  replace q119 := eq_true q119
                  go_wp2
                  go_roundg k1
                  case measure => have := HK1.out; omega
                  case rel => exact ⟨(x7_1), (wrap64 (x8_1 + 1)), (by first | rfl | (simp; done) | (simp [*]; done)), (by first | rfl | (simp; done) | (simp [*]; done)), H', ⟨by have := HK1.out; omega⟩, by repeat (first | exact Drawn0.refl _ | apply Drawn0.step)⟩
              · rw [if_neg c8] at H
                exact absurd H (by simp)
            · rw [if_neg c7] at H
              exact absurd H (by simp)
          · rw [if_neg c6] at H
            exact absurd H (by simp)
        · rw [if_neg c5] at H
          exact absurd H (by simp)
      · rw [if_neg c4] at H
        have c4b0 : decide (x8_1 < (l0.length : Int)) = false := decide_eq_false c4
        clear c4
        have H' := Aside0.mk H
        clear H
        go_wp2
        go_loopg [9] k1 (fun kq v9 w' => ∃ (x9_2 : Int), v9 = .int .i64 x9_2 ∧ Aside0 (spec_l1Join.l1 kq l0 a1 a2 x7_1 x9_2 = some r) ∧ Aside0 (kq ≤ k1) ∧ Drawn0 w w')
        case atStart => exact ⟨(0), (by first | rfl | (simp; done) | (simp [*]; done)), H', ⟨Nat.le_refl _⟩, by repeat (first | exact Drawn0.refl _ | apply Drawn0.step)⟩
        case round =>
          clear H'
          try clear c1
          try clear p1
          try clear q1
          try clear hx1
          try clear p2
          try clear c4
          try clear c4b0
          try clear c5
          try clear c5b0
          try clear c6
          try clear c6b0
          try clear p6
          try clear c7
          try clear c7b0
          try clear c8
          try clear c8b0
          try clear c9
          try clear c9b0
          try clear c9b1
          try clear c10
          try clear c10b0
          try clear c11
          try clear c11b0
          try clear p11
          try clear q11
          try clear hx11
          try clear c12
          try clear c12b0
          try clear p12
          try clear q12
          try clear hx12
          try clear c13
          try clear c13b0
          try clear c13b1
          try clear c14
          try clear c14b0
          try clear c15
          try clear c15b0
          try clear c16
          try clear c16b0
          try clear c17
          try clear c17b0
          try clear c17b1
          try clear hx118_0
          try clear hx119_0
          try clear hx120_0
          try clear hx121_0
          try clear hx122_0
          try clear hx123_0
          try clear p118
          try clear p119
          try clear p120
          try clear p121
          try clear p122
          try clear p123
          try clear p2
          try clear q118
          try clear q119
          try clear q120
          try clear q121
          try clear q122
          try clear q123
          obtain ⟨x9_2, rfl, HA, HK2, ⟨m2, rfl⟩⟩ := hrel
          cases gk with
          | zero => exact absurd HA.out (by simp [spec_l1Join.l1])
          | succ k2 =>
            have H := HA.out
            clear HA
            simp only [spec_l1Join.l1] at H
            by_cases c18 : x9_2 < (l0.length : Int)
            · rw [if_pos c18] at H
              have c18b0 : decide (x9_2 < (l0.length : Int)) = true := decide_eq_true c18
              clear c18
              by_cases c19 : 0 ≤ a1
              · rw [if_pos c19] at H
                have c19b0 : decide (0 ≤ a1) = true := decide_eq_true c19
                clear c19
                by_cases c20 : a1 < (l0.length : Int)
                · rw [if_pos c20] at H
                  have c20b0 : decide (a1 < (l0.length : Int)) = true := decide_eq_true c20
                  clear c20
                  by_cases c21 : 0 ≤ x9_2
                  · rw [if_pos c21] at H
                    have c21b0 : decide (0 ≤ x9_2) = true := decide_eq_true c21
                    clear c21
                    by_cases c22 : x9_2 < ((rd_L1 l0 a1).length : Int)
                    · rw [if_pos c22] at H
                      have c22b0 : decide (x9_2 < ((rd_L1 l0 a1).length : Int)) = true := decide_eq_true c22
                      clear c22
                      by_cases c23 : (rd (rd_L1 l0 a1) x9_2) = 1
                      · rw [if_pos c23] at H
                        have c23b0 : ((rd (rd_L1 l0 a1) x9_2) == 1) = true := beq_iff_eq.mpr c23
                        have c23b1 : ((rd (rd_L1 l0 a1) x9_2) != 1) = false := bne_eq_false_iff_eq.mpr c23
                        clear c23
                        by_cases c24 : 0 ≤ a2
                        · rw [if_pos c24] at H
                          have c24b0 : decide (0 ≤ a2) = true := decide_eq_true c24
                          clear c24
                          by_cases c25 : a2 < (l0.length : Int)
                          · rw [if_pos c25] at H
                            have c25b0 : decide (a2 < (l0.length : Int)) = true := decide_eq_true c25
                            clear c25
                            by_cases c26 : x9_2 < ((rd_L1 l0 a2).length : Int)
                            · rw [if_pos c26] at H
                              have c26b0 : decide (x9_2 < ((rd_L1 l0 a2).length : Int)) = true := decide_eq_true c26
                              clear c26
                              by_cases c27 : (rd (rd_L1 l0 a2) x9_2) = 1
                              · rw [if_pos c27] at H
                                have c27b0 : ((rd (rd_L1 l0 a2) x9_2) == 1) = true := beq_iff_eq.mpr c27
                                have c27b1 : ((rd (rd_L1 l0 a2) x9_2) != 1) = false := bne_eq_false_iff_eq.mpr c27
                                clear c27
                                by_cases c28 : 0 ≤ x7_1
                                · rw [if_pos c28] at H
                                  have c28b0 : decide (0 ≤ x7_1) = true := decide_eq_true c28
                                  clear c28
                                  by_cases c29 : x7_1 < (l0.length : Int)
                                  · rw [if_pos c29] at H
                                    have c29b0 : decide (x7_1 < (l0.length : Int)) = true := decide_eq_true c29
                                    clear c29
                                    by_cases c30 : x9_2 < ((rd_L1 l0 x7_1).length : Int)
                                    · rw [if_pos c30] at H
                                      have c30b0 : decide (x9_2 < ((rd_L1 l0 x7_1).length : Int)) = true := decide_eq_true c30
                                      clear c30
                                      by_cases c31 : (rd (rd_L1 l0 x7_1) x9_2) = 0
                                      · rw [if_pos c31] at H
                                        have c31b0 : ((rd (rd_L1 l0 x7_1) x9_2) == 0) = true := beq_iff_eq.mpr c31
                                        have c31b1 : ((rd (rd_L1 l0 x7_1) x9_2) != 0) = false := bne_eq_false_iff_eq.mpr c31
                                        clear c31
                                        obtain rfl := Option.some.inj H
                                        have p124 : 0 ≤ (a1 : Int) := of_decide_eq_true (by first | (with_reducible assumption) | assumption)
                                        have q124 : a1 < (l0.length : Int) := of_decide_eq_true (by first | (with_reducible assumption) | assumption)
                                        obtain ⟨ad124, A124_0, c124_0, e124, hx124_0, hl124_0, hi124_0⟩ := at_L1 HR0.out a1 p124 q124
                                        cases e124
                                        have HR124_0 := Aside0.mk hi124_0
                                        have HC124_0 := Aside0.mk hl124_0
                                        clear hi124_0 hl124_0
                                        replace p124 := eq_true p124
                                        replace q124 := eq_true q124
                                        have p125 : 0 ≤ (x9_2 : Int) := of_decide_eq_true (by first | (with_reducible assumption) | assumption)
                                        have q125 : x9_2 < ((rd_L1 l0 a1).length : Int) := of_decide_eq_true (by first | (with_reducible assumption) | assumption)
                                        obtain ⟨ad125, e125, hx125_0⟩ := Kd.at_int HR124_0.out x9_2 p125 q125
                                        cases e125
                                        replace p125 := eq_true p125
                                        replace q125 := eq_true q125
                                        have p126 : 0 ≤ (a2 : Int) := of_decide_eq_true (by first | (with_reducible assumption) | assumption)
                                        have q126 : a2 < (l0.length : Int) := of_decide_eq_true (by first | (with_reducible assumption) | assumption)
                                        obtain ⟨ad126, A126_0, c126_0, e126, hx126_0, hl126_0, hi126_0⟩ := at_L1 HR0.out a2 p126 q126
                                        obtain rfl : ad124 = ad126 := (by injection e126)
                                        have HR126_0 := Aside0.mk hi126_0
                                        have HC126_0 := Aside0.mk hl126_0
                                        clear hi126_0 hl126_0
                                        replace p126 := eq_true p126
                                        replace q126 := eq_true q126
                                        have p127 : 0 ≤ (x9_2 : Int) := of_decide_eq_true (by first | (with_reducible assumption) | assumption)
                                        have q127 : x9_2 < ((rd_L1 l0 a2).length : Int) := of_decide_eq_true (by first | (with_reducible assumption) | assumption)
                                        obtain ⟨ad127, e127, hx127_0⟩ := Kd.at_int HR126_0.out x9_2 p127 q127
                                        cases e127
                                        replace p127 := eq_true p127
                                        replace q127 := eq_true q127
                                        have p128 : 0 ≤ (x7_1 : Int) := of_decide_eq_true (by first | (with_reducible assumption) | assumption)
                                        have q128 : x7_1 < (l0.length : Int) := of_decide_eq_true (by first | (with_reducible assumption) | assumption)
                                        obtain ⟨ad128, A128_0, c128_0, e128, hx128_0, hl128_0, hi128_0⟩ := at_L1 HR0.out x7_1 p128 q128
                                        obtain rfl : ad124 = ad128 := (by injection e128)
                                        have HR128_0 := Aside0.mk hi128_0
                                        have HC128_0 := Aside0.mk hl128_0
                                        clear hi128_0 hl128_0
                                        replace p128 := eq_true p128
                                        replace q128 := eq_true q128
                                        have p129 : 0 ≤ (x9_2 : Int) := of_decide_eq_true (by first | (with_reducible assumption) | assumption)
                                        have q129 : x9_2 < ((rd_L1 l0 x7_1).length : Int) := of_decide_eq_true (by first | (with_reducible assumption) | assumption)
                                        obtain ⟨ad129, e129, hx129_0⟩ := Kd.at_int HR128_0.out x9_2 p129 q129
                                        cases e129
                                        replace p129 := eq_true p129
                                        replace q129 := eq_true q129
                                        go_wp2
                                        go_ret
                                        exact ⟨by first | rfl | (simp; done) | (simp [*]; done), by repeat (first | exact Drawn0.refl _ | apply Drawn0.step)⟩
                                      · rw [if_neg c31] at H
                                        have c31b0 : ((rd (rd_L1 l0 x7_1) x9_2) == 0) = false := beq_eq_false_iff_ne.mpr c31
                                        have c31b1 : ((rd (rd_L1 l0 x7_1) x9_2) != 0) = true := bne_iff_ne.mpr c31
                                        have H' := Aside0.mk H
                                        clear H
                                        have p124 : 0 ≤ (a1 : Int) := of_decide_eq_true (by first | (with_reducible assumption) | assumption)
                                        have q124 : a1 < (l0.length : Int) := of_decide_eq_true (by first | (with_reducible assumption) | assumption)
                                        obtain ⟨ad124, A124_0, c124_0, e124, hx124_0, hl124_0, hi124_0⟩ := at_L1 HR0.out a1 p124 q124
                                        cases e124
                                        have HR124_0 := Aside0.mk hi124_0
                                        have HC124_0 := Aside0.mk hl124_0
                                        clear hi124_0 hl124_0
                                        replace p124 := eq_true p124
                                        replace q124 := eq_true q124
                                        have p125 : 0 ≤ (x9_2 : Int) := of_decide_eq_true (by first | (with_reducible assumption) | assumption)
                                        have q125 : x9_2 < ((rd_L1 l0 a1).length : Int) := of_decide_eq_true (by first | (with_reducible assumption) | assumption)
                                        obtain ⟨ad125, e125, hx125_0⟩ := Kd.at_int HR124_0.out x9_2 p125 q125
                                        cases e125
                                        replace p125 := eq_true p125
                                        replace q125 := eq_true q125
                                        have p126 : 0 ≤ (a2 : Int) := of_decide_eq_true (by first | (with_reducible assumption) | assumption)
                                        have q126 : a2 < (l0.length : Int) := of_decide_eq_true (by first | (with_reducible assumption) | assumption)
                                        obtain ⟨ad126, A126_0, c126_0, e126, hx126_0, hl126_0, hi126_0⟩ := at_L1 HR0.out a2 p126 q126
                                        obtain rfl : ad124 = ad126 := (by injection e126)
                                        have HR126_0 := Aside0.mk hi126_0
                                        have HC126_0 := Aside0.mk hl126_0
                                        clear hi126_0 hl126_0
                                        replace p126 := eq_true p126
                                        replace q126 := eq_true q126
                                        have p127 : 0 ≤ (x9_2 : Int) := of_decide_eq_true (by first | (with_reducible assumption) | assumption)
                                        have q127 : x9_2 < ((rd_L1 l0 a2).length : Int) := of_decide_eq_true (by first | (with_reducible assumption) | assumption)
                                        obtain ⟨ad127, e127, hx127_0⟩ := Kd.at_int HR126_0.out x9_2 p127 q127
                                        cases e127
                                        replace p127 := eq_true p127
                                        replace q127 := eq_true q127
                                        have p128 : 0 ≤ (x7_1 : Int) := of_decide_eq_true (by first | (with_reducible assumption) | assumption)
                                        have q128 : x7_1 < (l0.length : Int) := of_decide_eq_true (by first | (with_reducible assumption) | assumption)
                                        obtain ⟨ad128, A128_0, c128_0, e128, hx128_0, hl128_0, hi128_0⟩ := at_L1 HR0.out x7_1 p128 q128
                                        obtain rfl : ad124 = ad128 := (by injection e128)
                                        have HR128_0 := Aside0.mk hi128_0
                                        have HC128_0 := Aside0.mk hl128_0
                                        clear hi128_0 hl128_0
                                        replace p128 := eq_true p128
                                        replace q128 := eq_true q128
                                        have p129 : 0 ≤ (x9_2 : Int) := of_decide_eq_true (by first | (with_reducible assumption) | assumption)
                                        have q129 : x9_2 < ((rd_L1 l0 x7_1).length : Int) := of_decide_eq_true (by first | (with_reducible assumption) | assumption)
                                        obtain ⟨ad129, e129, hx129_0⟩ := Kd.at_int HR128_0.out x9_2 p129 q129
                                        cases e129
                                        replace p129 := eq_true p129
                                        replace q129 := eq_true q129
                                        go_wp2
                                        go_roundg k2
                                        case measure => have := HK1.out; have := HK2.out; omega
                                        case rel => exact ⟨(wrap64 (x9_2 + 1)), (by first | rfl | (simp; done) | (simp [*]; done)), H', ⟨by have := HK1.out; have := HK2.out; omega⟩, by repeat (first | exact Drawn0.refl _ | apply Drawn0.step)⟩
                                    · rw [if_neg c30] at H
                                      exact absurd H (by simp)
                                  · rw [if_neg c29] at H
                                    exact absurd H (by simp)
                                · rw [if_neg c28] at H
                                  exact absurd H (by simp)
                              · rw [if_neg c27] at H
                                have c27b0 : ((rd (rd_L1 l0 a2) x9_2) == 1) = false := beq_eq_false_iff_ne.mpr c27
                                have c27b1 : ((rd (rd_L1 l0 a2) x9_2) != 1) = true := bne_iff_ne.mpr c27
                                have H' := Aside0.mk H
                                clear H
                                have p124 : 0 ≤ (a1 : Int) := of_decide_eq_true (by first | (with_reducible assumption) | assumption)
                                have q124 : a1 < (l0.length : Int) := of_decide_eq_true (by first | (with_reducible assumption) | assumption)
                                obtain ⟨ad124, A124_0, c124_0, e124, hx124_0, hl124_0, hi124_0⟩ := at_L1 HR0.out a1 p124 q124
                                cases e124
                                have HR124_0 := Aside0.mk hi124_0
                                have HC124_0 := Aside0.mk hl124_0
                                clear hi124_0 hl124_0
                                replace p124 := eq_true p124
                                replace q124 := eq_true q124
                                have p125 : 0 ≤ (x9_2 : Int) := of_decide_eq_true (by first | (with_reducible assumption) | assumption)
                                have q125 : x9_2 < ((rd_L1 l0 a1).length : Int) := of_decide_eq_true (by first | (with_reducible assumption) | assumption)
                                obtain ⟨ad125, e125, hx125_0⟩ := Kd.at_int HR124_0.out x9_2 p125 q125
                                cases e125
                                replace p125 := eq_true p125
                                replace q125 := eq_true q125
                                have p126 : 0 ≤ (a2 : Int) := of_decide_eq_true (by first | (with_reducible assumption) | assumption)
                                have q126 : a2 < (l0.length : Int) := of_decide_eq_true (by first | (with_reducible assumption) | assumption)
                                obtain ⟨ad126, A126_0, c126_0, e126, hx126_0, hl126_0, hi126_0⟩ := at_L1 HR0.out a2 p126 q126
                                obtain rfl : ad124 = ad126 := (by injection e126)
                                have HR126_0 := Aside0.mk hi126_0
                                have HC126_0 := Aside0.mk hl126_0
                                clear hi126_0 hl126_0
                                replace p126 := eq_true p126
                                replace q126 := eq_true q126
                                have p127 : 0 ≤ (x9_2 : Int) := of_decide_eq_true (by first | (with_reducible assumption) | assumption)
                                have q127 : x9_2 < ((rd_L1 l0 a2).length : Int) := of_decide_eq_true (by first | (with_reducible assumption) | assumption)
                                obtain ⟨ad127, e127, hx127_0⟩ := Kd.at_int HR126_0.out x9_2 p127 q127
                                cases e127
                                replace p127 := eq_true p127
                                replace q127 := eq_true q127
                                go_wp2
                                go_roundg k2
                                case measure => have := HK1.out; have := HK2.out; omega
                                case rel => exact ⟨(wrap64 (x9_2 + 1)), (by first | rfl | (simp; done) | (simp [*]; done)), H', ⟨by have := HK1.out; have := HK2.out; omega⟩, by repeat (first | exact Drawn0.refl _ | apply Drawn0.step)⟩
                            · rw [if_neg c26] at H
                              exact absurd H (by simp)
                          · rw [if_neg c25] at H
                            exact absurd H (by simp)
                        · rw [if_neg c24] at H
                          exact absurd H (by simp)
                      · rw [if_neg c23] at H
                        have c23b0 : ((rd (rd_L1 l0 a1) x9_2) == 1) = false := beq_eq_false_iff_ne.mpr c23
                        have c23b1 : ((rd (rd_L1 l0 a1) x9_2) != 1) = true := bne_iff_ne.mpr c23
                        have H' := Aside0.mk H
                        clear H
                        have p124 : 0 ≤ (a1 : Int) := of_decide_eq_true (by first | (with_reducible assumption) | assumption)
                        have q124 : a1 < (l0.length : Int) := of_decide_eq_true (by first | (with_reducible assumption) | assumption)
                        obtain ⟨ad124, A124_0, c124_0, e124, hx124_0, hl124_0, hi124_0⟩ := at_L1 HR0.out a1 p124 q124
                        cases e124
                        have HR124_0 := Aside0.mk hi124_0
                        have HC124_0 := Aside0.mk hl124_0
                        clear hi124_0 hl124_0
                        replace p124 := eq_true p124
                        replace q124 := eq_true q124
                        have p125 : 0 ≤ (x9_2 : Int) := of_decide_eq_true (by first | (with_reducible assumption) | assumption)
                        have q125 : x9_2 < ((rd_L1 l0 a1).length : Int) := of_decide_eq_true (by first | (with_reducible assumption) | assumption)
                        obtain ⟨ad125, e125, hx125_0⟩ := Kd.at_int HR124_0.out x9_2 p125 q125
                        cases e125
                        replace p125 := eq_true p125
                        replace q125 := eq_true q125
                        go_wp2
                        go_roundg k2
                        case measure => have := HK1.out; have := HK2.out; omega
                        case rel => exact ⟨(wrap64 (x9_2 + 1)), (by first | rfl | (simp; done) | (simp [*]; done)), H', ⟨by have := HK1.out; have := HK2.out; omega⟩, by repeat (first | exact Drawn0.refl _ | apply Drawn0.step)⟩
                    · rw [if_neg c22] at H
                      exact absurd H (by simp)
                  · rw [if_neg c21] at H
                    exact absurd H (by simp)
                · rw [if_neg c20] at H
                  exact absurd H (by simp)
              · rw [if_neg c19] at H
                exact absurd H (by simp)
            · rw [if_neg c18] at H
              have c18b0 : decide (x9_2 < (l0.length : Int)) = false := decide_eq_false c18
              clear c18
              obtain rfl := Option.some.inj H
              go_wp2
              go_ret
              exact ⟨by first | rfl | (simp; done) | (simp [*]; done), by repeat (first | exact Drawn0.refl _ | apply Drawn0.step)⟩
end Go.Proofs.Ythideghgdmokkaa.Print
end
section
namespace Go.Proofs.Ythideghgdmokkaa.Print
open Go.RowKit Go.Proofs.YthideghgdmokkaaW.PrintWords Go.Proofs.YthideghgdmokkaaW.PrintLast Go.Proofs.YthideghgdmokkaaW.PrintMore
attribute [local go_sem] max2_int min2_int max_two min_two max_three min_three max_four min_four   -- for this text's walks alone
set_option linter.unusedVariables false
set_option linter.unusedSimpArgs false
mutual
def spec_OrderOk.l0 : Nat → List (List Int) → Int → Int → Option (Bool)
  | 0, _, _, _ => none
  | k + 1, x0, x3, x4 => if x4 < x3 then (if 0 ≤ x4 then (if x4 < (x0.length : Int) then (if ((rd_L1 x0 x4).length : Int) = x3 then (spec_OrderOk.l1 k x0 x3 x4 0) else (some false)) else (none)) else (none)) else (spec_OrderOk.l2 k x0 x3 0)
def spec_OrderOk.l1 : Nat → List (List Int) → Int → Int → Int → Option (Bool)
  | 0, _, _, _, _ => none
  | k + 1, x0, x3, x4, x5 => if x5 < x3 then (if 0 ≤ x4 then (if x4 < (x0.length : Int) then (if 0 ≤ x5 then (if x5 < ((rd_L1 x0 x4).length : Int) then ((spec_l1In.f (rd (rd_L1 x0 x4) x5) 0 1).bind fun t134 => (if t134 = true then (spec_OrderOk.l1 k x0 x3 x4 (wrap64 (x5 + 1))) else (some false))) else (none)) else (none)) else (none)) else (none)) else (spec_OrderOk.l0 k x0 x3 (wrap64 (x4 + 1)))
def spec_OrderOk.l2 : Nat → List (List Int) → Int → Int → Option (Bool)
  | 0, _, _, _ => none
  | k + 1, x0, x3, x6 => if x6 < x3 then (spec_OrderOk.l3 k x0 x3 x6 0) else (some true)
def spec_OrderOk.l3 : Nat → List (List Int) → Int → Int → Int → Option (Bool)
  | 0, _, _, _, _ => none
  | k + 1, x0, x3, x6, x7 => if x7 < x3 then (if x6 = x7 then (if 0 ≤ x6 then (if x6 < (x0.length : Int) then (if 0 ≤ x7 then (if x7 < ((rd_L1 x0 x6).length : Int) then (if (rd (rd_L1 x0 x6) x7) = 0 then (spec_OrderOk.j4 k x0 x3 x6 x7 true) else (spec_OrderOk.j4 k x0 x3 x6 x7 false)) else (none)) else (none)) else (none)) else (none)) else (if 0 ≤ x6 then (if x6 < (x0.length : Int) then (if 0 ≤ x7 then (if x7 < ((rd_L1 x0 x6).length : Int) then (if (rd (rd_L1 x0 x6) x7) = 1 then (if x7 < (x0.length : Int) then (if x6 < ((rd_L1 x0 x7).length : Int) then (spec_OrderOk.j4 k x0 x3 x6 x7 ((rd (rd_L1 x0 x7) x6) == 1)) else (none)) else (none)) else (spec_OrderOk.j4 k x0 x3 x6 x7 false)) else (none)) else (none)) else (none)) else (none))) else (spec_OrderOk.l2 k x0 x3 (wrap64 (x6 + 1)))
def spec_OrderOk.j4 : Nat → List (List Int) → Int → Int → Int → Bool → Option (Bool)
  | 0, _, _, _, _, _ => none
  | k + 1, x0, x3, x6, x7, x87 => if x87 = true then (some false) else (spec_OrderOk.l4 k x0 x3 x6 x7 0)
def spec_OrderOk.l4 : Nat → List (List Int) → Int → Int → Int → Int → Option (Bool)
  | 0, _, _, _, _, _ => none
  | k + 1, x0, x3, x6, x7, x8 => if x8 < x3 then (if 0 ≤ x6 then (if x6 < (x0.length : Int) then (if 0 ≤ x7 then (if x7 < ((rd_L1 x0 x6).length : Int) then (if (rd (rd_L1 x0 x6) x7) = 1 then (if x7 < (x0.length : Int) then (if 0 ≤ x8 then (if x8 < ((rd_L1 x0 x7).length : Int) then (if (rd (rd_L1 x0 x7) x8) = 1 then (if x8 < ((rd_L1 x0 x6).length : Int) then (if (rd (rd_L1 x0 x6) x8) = 0 then (some false) else (spec_OrderOk.l4 k x0 x3 x6 x7 (wrap64 (x8 + 1)))) else (none)) else (spec_OrderOk.l4 k x0 x3 x6 x7 (wrap64 (x8 + 1)))) else (none)) else (none)) else (none)) else (spec_OrderOk.l4 k x0 x3 x6 x7 (wrap64 (x8 + 1)))) else (none)) else (none)) else (none)) else (none)) else (spec_OrderOk.l3 k x0 x3 x6 (wrap64 (x7 + 1)))
end
def spec_OrderOk.f (k : Nat) (l0 : List (List Int)) : Option (Bool) := (spec_l1In.f (l0.length : Int) 1 12).bind fun t130 => (if t130 = true then (spec_OrderOk.l0 k l0 (l0.length : Int) 0) else (some false))
set_option maxHeartbeats 8000000 in
set_option maxRecDepth 100000 in
theorem spec_OrderOk.calls (k : Nat) (A0 : Option Addr) (c0 : Nat) (l0 : List (List Int)) (r : Bool) (w : World) (hr0 : Kd.C (Kd.slice 3 (Kd.int .i64)) w A0 l0.length l0) (hc0 : l0.length ≤ c0) (h : spec_OrderOk.f k l0 = some r) :
    Calls Try.prog 133 #[.slice A0 l0.length c0] w fun e w' => e = .returned (.bool r) ∧ Drawn0 w w' := by
  have HR0 := Aside0.mk hr0
  have HC0 := Aside0.mk hc0
  clear hr0 hc0
  have H : ((spec_l1In.f (l0.length : Int) 1 12).bind fun t130 => (if t130 = true then (spec_OrderOk.l0 k l0 (l0.length : Int) 0) else (some false))) = some r := h
  clear h
  replace H := Option.bind_eq_some_iff.mp H
  obtain ⟨t130, A20, H⟩ := H
  replace H : (if t130 = true then (spec_OrderOk.l0 k l0 (l0.length : Int) 0) else (some false)) = some r := H
  have A2 := Aside0.mk A20
  clear A20
  by_cases c3 : t130 = true
  · subst c3
    have H1 : (spec_OrderOk.l0 k l0 (l0.length : Int) 0) = some r := by rw [if_pos rfl] at H; exact H
    clear H
    have H := H1
    clear H1
    have H' := Aside0.mk H
    clear H
    go_enter Try.func133, Try.ntmps133
    go_wp2_with (first | ((with_reducible refine gate_callee (f := 52) rfl ?_); refine goesL_ (some 12) rfl rfl Try.func52 (by kernel_rfl) rfl #[.int .i64 (l0.length : Int), .int .i64 1, .int .i64 12] rfl (by (try simp only [List.map_toArray, List.map_cons, List.map_nil]); first | done | rfl | (simp only [List.length_drop, List.length_take]; rfl)) ?_; (with_reducible refine (spec_l1In.calls (l0.length : Int) 1 12 true _ A2.out).mono ?_); rintro e w' ⟨rfl, ⟨nd, rfl⟩⟩; refine ⟨_, rfl, ?_⟩))
    go_loopg [4] k (fun kq v4 w' => ∃ (x4_1 : Int), v4 = .int .i64 x4_1 ∧ Aside0 (spec_OrderOk.l0 kq l0 (l0.length : Int) x4_1 = some r) ∧ Aside0 (kq ≤ k) ∧ Drawn0 w w')
    case atStart => exact ⟨(0), (by first | rfl | (simp; done) | (simp [*]; done)), H', ⟨Nat.le_refl _⟩, by repeat (first | exact Drawn0.refl _ | apply Drawn0.step)⟩
    case round =>
      clear H'
      try clear c1
      try clear p2
      try clear c3
      obtain ⟨x4_1, rfl, HA, HK1, ⟨m1, rfl⟩⟩ := hrel
      cases gk with
      | zero => exact absurd HA.out (by simp [spec_OrderOk.l0])
      | succ k1 =>
        have H := HA.out
        clear HA
        simp only [spec_OrderOk.l0] at H
        by_cases c4 : x4_1 < (l0.length : Int)
        · rw [if_pos c4] at H
          have c4b0 : decide (x4_1 < (l0.length : Int)) = true := decide_eq_true c4
          clear c4
          by_cases c5 : 0 ≤ x4_1
          · rw [if_pos c5] at H
            have c5b0 : decide (0 ≤ x4_1) = true := decide_eq_true c5
            clear c5
            by_cases c6 : x4_1 < (l0.length : Int)
            · rw [if_pos c6] at H
              have c6b0 : decide (x4_1 < (l0.length : Int)) = true := decide_eq_true c6
              clear c6
              by_cases c7 : ((rd_L1 l0 x4_1).length : Int) = (l0.length : Int)
              · rw [if_pos c7] at H
                have c7b0 : (((rd_L1 l0 x4_1).length : Int) == (l0.length : Int)) = true := beq_iff_eq.mpr c7
                have c7b1 : (((rd_L1 l0 x4_1).length : Int) != (l0.length : Int)) = false := bne_eq_false_iff_eq.mpr c7
                have c7b2 : ((rd_L1 l0 x4_1).length == l0.length) = true := by first | simpa using c7 | (simp at c7 ⊢; omega)
                clear c7
                have H' := Aside0.mk H
                clear H
                have p131 : 0 ≤ (x4_1 : Int) := of_decide_eq_true (by first | (with_reducible assumption) | assumption)
                have q131 : x4_1 < (l0.length : Int) := of_decide_eq_true (by first | (with_reducible assumption) | assumption)
                obtain ⟨ad131, A131_0, c131_0, e131, hx131_0, hl131_0, hi131_0⟩ := at_L1 HR0.out x4_1 p131 q131
                cases e131
                have HR131_0 := Aside0.mk hi131_0
                have HC131_0 := Aside0.mk hl131_0
                clear hi131_0 hl131_0
                replace p131 := eq_true p131
                replace q131 := eq_true q131
                go_wp2
                go_loopg [5] k1 (fun kq v5 w' => ∃ (x5_2 : Int), v5 = .int .i64 x5_2 ∧ Aside0 (spec_OrderOk.l1 kq l0 (l0.length : Int) x4_1 x5_2 = some r) ∧ Aside0 (kq ≤ k1) ∧ Drawn0 w w')
                case atStart => exact ⟨(0), (by first | rfl | (simp; done) | (simp [*]; done)), H', ⟨Nat.le_refl _⟩, by repeat (first | exact Drawn0.refl _ | apply Drawn0.step)⟩
                case round =>
                  clear H'
                  try clear c1
                  try clear p1
                  try clear q1
                  try clear hx1
                  try clear p2
                  try clear c3
                  try clear c4
                  try clear c4b0
                  try clear c5
                  try clear c5b0
                  try clear c6
                  try clear c6b0
                  try clear c7
                  try clear c7b0
                  try clear c7b1
                  try clear c7b2
                  try clear hx131_0
                  try clear p131
                  try clear p2
                  try clear q131
                  obtain ⟨x5_2, rfl, HA, HK2, ⟨m2, rfl⟩⟩ := hrel
                  cases gk with
                  | zero => exact absurd HA.out (by simp [spec_OrderOk.l1])
                  | succ k2 =>
                    have H := HA.out
                    clear HA
                    simp only [spec_OrderOk.l1] at H
                    by_cases c8 : x5_2 < (l0.length : Int)
                    · rw [if_pos c8] at H
                      have c8b0 : decide (x5_2 < (l0.length : Int)) = true := decide_eq_true c8
                      clear c8
                      by_cases c9 : 0 ≤ x4_1
                      · rw [if_pos c9] at H
                        have c9b0 : decide (0 ≤ x4_1) = true := decide_eq_true c9
                        clear c9
                        by_cases c10 : x4_1 < (l0.length : Int)
                        · rw [if_pos c10] at H
                          have c10b0 : decide (x4_1 < (l0.length : Int)) = true := decide_eq_true c10
                          clear c10
                          by_cases c11 : 0 ≤ x5_2
                          · rw [if_pos c11] at H
                            have c11b0 : decide (0 ≤ x5_2) = true := decide_eq_true c11
                            clear c11
                            by_cases c12 : x5_2 < ((rd_L1 l0 x4_1).length : Int)
                            · rw [if_pos c12] at H
                              have c12b0 : decide (x5_2 < ((rd_L1 l0 x4_1).length : Int)) = true := decide_eq_true c12
                              clear c12
                              replace H := Option.bind_eq_some_iff.mp H
                              obtain ⟨t134, A130, H⟩ := H
                              replace H : (if t134 = true then (spec_OrderOk.l1 k2 l0 (l0.length : Int) x4_1 (wrap64 (x5_2 + 1))) else (some false)) = some r := H
                              have A13 := Aside0.mk A130
                              clear A130
                              by_cases c14 : t134 = true
                              · subst c14
                                have H1 : (spec_OrderOk.l1 k2 l0 (l0.length : Int) x4_1 (wrap64 (x5_2 + 1))) = some r := by rw [if_pos rfl] at H; exact H
                                clear H
                                have H := H1
                                clear H1
                                have H' := Aside0.mk H
                                clear H
                                have p132 : 0 ≤ (x4_1 : Int) := of_decide_eq_true (by first | (with_reducible assumption) | assumption)
                                have q132 : x4_1 < (l0.length : Int) := of_decide_eq_true (by first | (with_reducible assumption) | assumption)
                                obtain ⟨ad132, A132_0, c132_0, e132, hx132_0, hl132_0, hi132_0⟩ := at_L1 HR0.out x4_1 p132 q132
                                obtain rfl : ad131 = ad132 := (by injection e132)
                                have HR132_0 := Aside0.mk hi132_0
                                have HC132_0 := Aside0.mk hl132_0
                                clear hi132_0 hl132_0
                                replace p132 := eq_true p132
                                replace q132 := eq_true q132
                                have p133 : 0 ≤ (x5_2 : Int) := of_decide_eq_true (by first | (with_reducible assumption) | assumption)
                                have q133 : x5_2 < ((rd_L1 l0 x4_1).length : Int) := of_decide_eq_true (by first | (with_reducible assumption) | assumption)
                                obtain ⟨ad133, e133, hx133_0⟩ := Kd.at_int HR132_0.out x5_2 p133 q133
                                cases e133
                                replace p133 := eq_true p133
                                replace q133 := eq_true q133
                                go_wp2_with (first | ((with_reducible refine gate_callee (f := 52) rfl ?_); refine goesL_ (some 38) rfl rfl Try.func52 (by kernel_rfl) rfl #[.int .i64 (rd (rd_L1 l0 x4_1) x5_2), .int .i64 0, .int .i64 1] rfl (by (try simp only [List.map_toArray, List.map_cons, List.map_nil]); first | done | rfl | (simp only [List.length_drop, List.length_take]; rfl)) ?_; (with_reducible refine (spec_l1In.calls (rd (rd_L1 l0 x4_1) x5_2) 0 1 true _ A13.out).mono ?_); rintro e w' ⟨rfl, ⟨nd, rfl⟩⟩; refine ⟨_, rfl, ?_⟩))
                                go_roundg k2
                                case measure => have := HK1.out; have := HK2.out; omega
                                case rel => exact ⟨(wrap64 (x5_2 + 1)), (by first | rfl | (simp; done) | (simp [*]; done)), H', ⟨by have := HK1.out; have := HK2.out; omega⟩, by repeat (first | exact Drawn0.refl _ | apply Drawn0.step)⟩
                              · replace c14 := Bool.eq_false_iff.mpr c14
                                subst c14
                                have H1 : (some false) = some r := by rw [if_neg (show ¬ (false = true) by decide)] at H; exact H
                                clear H
                                have H := H1
                                clear H1
                                obtain rfl := Option.some.inj H
                                have p132 : 0 ≤ (x4_1 : Int) := of_decide_eq_true (by first | (with_reducible assumption) | assumption)
                                have q132 : x4_1 < (l0.length : Int) := of_decide_eq_true (by first | (with_reducible assumption) | assumption)
                                obtain ⟨ad132, A132_0, c132_0, e132, hx132_0, hl132_0, hi132_0⟩ := at_L1 HR0.out x4_1 p132 q132
                                obtain rfl : ad131 = ad132 := (by injection e132)
                                have HR132_0 := Aside0.mk hi132_0
                                have HC132_0 := Aside0.mk hl132_0
                                clear hi132_0 hl132_0
                                replace p132 := eq_true p132
                                replace q132 := eq_true q132
                                have p133 : 0 ≤ (x5_2 : Int) := of_decide_eq_true (by first | (with_reducible assumption) | assumption)
                                have q133 : x5_2 < ((rd_L1 l0 x4_1).length : Int) := of_decide_eq_true (by first | (with_reducible assumption) | assumption)
                                obtain ⟨ad133, e133, hx133_0⟩ := Kd.at_int HR132_0.out x5_2 p133 q133
                                cases e133
                                replace p133 := eq_true p133
                                replace q133 := eq_true q133
                                go_wp2_with (first | ((with_reducible refine gate_callee (f := 52) rfl ?_); refine goesL_ (some 38) rfl rfl Try.func52 (by kernel_rfl) rfl #[.int .i64 (rd (rd_L1 l0 x4_1) x5_2), .int .i64 0, .int .i64 1] rfl (by (try simp only [List.map_toArray, List.map_cons, List.map_nil]); first | done | rfl | (simp only [List.length_drop, List.length_take]; rfl)) ?_; (with_reducible refine (spec_l1In.calls (rd (rd_L1 l0 x4_1) x5_2) 0 1 false _ A13.out).mono ?_); rintro e w' ⟨rfl, ⟨nd, rfl⟩⟩; refine ⟨_, rfl, ?_⟩))
                                go_ret
                                exact ⟨by first | rfl | (simp; done) | (simp [*]; done), by repeat (first | exact Drawn0.refl _ | apply Drawn0.step)⟩
                            · rw [if_neg c12] at H
                              exact absurd H (by simp)
                          · rw [if_neg c11] at H
                            exact absurd H (by simp)
                        · rw [if_neg c10] at H
                          exact absurd H (by simp)
                      · rw [if_neg c9] at H
                        exact absurd H (by simp)
                    · rw [if_neg c8] at H
                      have c8b0 : decide (x5_2 < (l0.length : Int)) = false := decide_eq_false c8
                      clear c8
                      have H' := Aside0.mk H
                      clear H
                      go_wp2
                      go_roundg k2
                      case measure => have := HK1.out; have := HK2.out; omega
                      case rel => exact ⟨(wrap64 (x4_1 + 1)), (by first | rfl | (simp; done) | (simp [*]; done)), H', ⟨by have := HK1.out; have := HK2.out; omega⟩, by repeat (first | exact Drawn0.refl _ | apply Drawn0.step)⟩
              · rw [if_neg c7] at H
                have c7b0 : (((rd_L1 l0 x4_1).length : Int) == (l0.length : Int)) = false := beq_eq_false_iff_ne.mpr c7
                have c7b1 : (((rd_L1 l0 x4_1).length : Int) != (l0.length : Int)) = true := bne_iff_ne.mpr c7
                have c7b2 : ((rd_L1 l0 x4_1).length == l0.length) = false := by first | simpa using c7 | (simp at c7 ⊢; omega)
                obtain rfl := Option.some.inj H
                have p131 : 0 ≤ (x4_1 : Int) := of_decide_eq_true (by first | (with_reducible assumption) | assumption)
                have q131 : x4_1 < (l0.length : Int) := of_decide_eq_true (by first | (with_reducible assumption) | assumption)
                obtain ⟨ad131, A131_0, c131_0, e131, hx131_0, hl131_0, hi131_0⟩ := at_L1 HR0.out x4_1 p131 q131
                cases e131
                have HR131_0 := Aside0.mk hi131_0
                have HC131_0 := Aside0.mk hl131_0
                clear hi131_0 hl131_0
                replace p131 := eq_true p131
                replace q131 := eq_true q131
                go_wp2
                go_ret
                exact ⟨by first | rfl | (simp; done) | (simp [*]; done), by repeat (first | exact Drawn0.refl _ | apply Drawn0.step)⟩
            · rw [if_neg c6] at H
              exact absurd H (by simp)
          · rw [if_neg c5] at H
            exact absurd H (by simp)
        · rw [if_neg c4] at H
          have c4b0 : decide (x4_1 < (l0.length : Int)) = false := decide_eq_false c4
          clear c4
          have H' := Aside0.mk H
          clear H
          go_wp2
          go_loopg [6] k1 (fun kq v6 w' => ∃ (x6_2 : Int), v6 = .int .i64 x6_2 ∧ Aside0 (spec_OrderOk.l2 kq l0 (l0.length : Int) x6_2 = some r) ∧ Aside0 (kq ≤ k1) ∧ Drawn0 w w')
          case atStart => exact ⟨(0), (by first | rfl | (simp; done) | (simp [*]; done)), H', ⟨Nat.le_refl _⟩, by repeat (first | exact Drawn0.refl _ | apply Drawn0.step)⟩
          case round =>
            clear H'
            try clear c1
            try clear p1
            try clear q1
            try clear hx1
            try clear p2
            try clear c3
            try clear c4
            try clear c4b0
            try clear c5
            try clear c5b0
            try clear c6
            try clear c6b0
            try clear p6
            try clear c7
            try clear c7b0
            try clear c7b1
            try clear c7b2
            try clear c8
            try clear c8b0
            try clear c9
            try clear c9b0
            try clear c10
            try clear c10b0
            try clear c11
            try clear c11b0
            try clear c12
            try clear c12b0
            try clear c13
            try clear p13
            try clear q13
            try clear hx13
            try clear c14
            try clear hx131_0
            try clear hx132_0
            try clear hx133_0
            try clear p1
            try clear p131
            try clear p132
            try clear p133
            try clear p2
            try clear q1
            try clear q131
            try clear q132
            try clear q133
            obtain ⟨x6_2, rfl, HA, HK2, ⟨m2, rfl⟩⟩ := hrel
            cases gk with
            | zero => exact absurd HA.out (by simp [spec_OrderOk.l2])
            | succ k2 =>
              have H := HA.out
              clear HA
              simp only [spec_OrderOk.l2] at H
              by_cases c15 : x6_2 < (l0.length : Int)
              · rw [if_pos c15] at H
                have c15b0 : decide (x6_2 < (l0.length : Int)) = true := decide_eq_true c15
                clear c15
                have H' := Aside0.mk H
                clear H
                go_wp2
                go_loopg [7] k2 (fun kq v7 w' => ∃ (x7_3 : Int), v7 = .int .i64 x7_3 ∧ Aside0 (spec_OrderOk.l3 kq l0 (l0.length : Int) x6_2 x7_3 = some r) ∧ Aside0 (kq ≤ k2) ∧ Drawn0 w w')
                case atStart => exact ⟨(0), (by first | rfl | (simp; done) | (simp [*]; done)), H', ⟨Nat.le_refl _⟩, by repeat (first | exact Drawn0.refl _ | apply Drawn0.step)⟩
                case round =>
                  clear H'
                  try clear c1
                  try clear p1
                  try clear q1
                  try clear hx1
                  try clear p2
                  try clear c3
                  try clear c4
                  try clear c4b0
                  try clear c5
                  try clear c5b0
                  try clear c6
                  try clear c6b0
                  try clear p6
                  try clear c7
                  try clear c7b0
                  try clear c7b1
                  try clear c7b2
                  try clear c8
                  try clear c8b0
                  try clear c9
                  try clear c9b0
                  try clear c10
                  try clear c10b0
                  try clear c11
                  try clear c11b0
                  try clear c12
                  try clear c12b0
                  try clear c13
                  try clear p13
                  try clear q13
                  try clear hx13
                  try clear c14
                  try clear c15
                  try clear c15b0
                  try clear hx131_0
                  try clear hx132_0
                  try clear hx133_0
                  try clear p1
                  try clear p13
                  try clear p131
                  try clear p132
                  try clear p133
                  try clear p2
                  try clear p6
                  try clear q1
                  try clear q13
                  try clear q131
                  try clear q132
                  try clear q133
                  obtain ⟨x7_3, rfl, HA, HK3, ⟨m3, rfl⟩⟩ := hrel
                  cases gk with
                  | zero => exact absurd HA.out (by simp [spec_OrderOk.l3])
                  | succ k3 =>
                    have H := HA.out
                    clear HA
                    simp only [spec_OrderOk.l3] at H
                    by_cases c16 : x7_3 < (l0.length : Int)
                    · rw [if_pos c16] at H
                      have c16b0 : decide (x7_3 < (l0.length : Int)) = true := decide_eq_true c16
                      clear c16
                      have HC17 := Aside0.mk H
                      clear H
                      go_upto_region 20 with (fail)
                      go_cut [87] (fun v87 wc => ∃ (kq : Nat) (x87_16 : Bool), v87 = .bool x87_16 ∧ Aside0 (spec_OrderOk.j4 kq l0 (l0.length : Int) x6_2 x7_3 x87_16 = some r) ∧ Aside0 (kq ≤ k3) ∧ Drawn0 w wc)
                      case first =>
                        have H := HC17.out
                        clear HC17
                        by_cases c18 : x6_2 = x7_3
                        · rw [if_pos c18] at H
                          have c18b0 : (x6_2 == x7_3) = true := beq_iff_eq.mpr c18
                          have c18b1 : (x6_2 != x7_3) = false := bne_eq_false_iff_eq.mpr c18
                          clear c18
                          (first | rw [c18b0] | (simp only [i64_w, i32_w]; rw [c18b0]) | skip)
                          by_cases c19 : 0 ≤ x6_2
                          · rw [if_pos c19] at H
                            have c19b0 : decide (0 ≤ x6_2) = true := decide_eq_true c19
                            clear c19
                            by_cases c20 : x6_2 < (l0.length : Int)
                            · rw [if_pos c20] at H
                              have c20b0 : decide (x6_2 < (l0.length : Int)) = true := decide_eq_true c20
                              clear c20
                              by_cases c21 : 0 ≤ x7_3
                              · rw [if_pos c21] at H
                                have c21b0 : decide (0 ≤ x7_3) = true := decide_eq_true c21
                                clear c21
                                by_cases c22 : x7_3 < ((rd_L1 l0 x6_2).length : Int)
                                · rw [if_pos c22] at H
                                  have c22b0 : decide (x7_3 < ((rd_L1 l0 x6_2).length : Int)) = true := decide_eq_true c22
                                  clear c22
                                  by_cases c23 : (rd (rd_L1 l0 x6_2) x7_3) = 0
                                  · rw [if_pos c23] at H
                                    have c23b0 : ((rd (rd_L1 l0 x6_2) x7_3) == 0) = true := beq_iff_eq.mpr c23
                                    have c23b1 : ((rd (rd_L1 l0 x6_2) x7_3) != 0) = false := bne_eq_false_iff_eq.mpr c23
                                    clear c23
                                    have H' := Aside0.mk H
                                    clear H
                                    have p135 : 0 ≤ (x6_2 : Int) := of_decide_eq_true (by first | (with_reducible assumption) | assumption)
                                    have q135 : x6_2 < (l0.length : Int) := of_decide_eq_true (by first | (with_reducible assumption) | assumption)
                                    obtain ⟨ad135, A135_0, c135_0, e135, hx135_0, hl135_0, hi135_0⟩ := at_L1 HR0.out x6_2 p135 q135
                                    cases e135
                                    have HR135_0 := Aside0.mk hi135_0
                                    have HC135_0 := Aside0.mk hl135_0
                                    clear hi135_0 hl135_0
                                    replace p135 := eq_true p135
                                    replace q135 := eq_true q135
                                    have p136 : 0 ≤ (x7_3 : Int) := of_decide_eq_true (by first | (with_reducible assumption) | assumption)
                                    have q136 : x7_3 < ((rd_L1 l0 x6_2).length : Int) := of_decide_eq_true (by first | (with_reducible assumption) | assumption)
                                    obtain ⟨ad136, e136, hx136_0⟩ := Kd.at_int HR135_0.out x7_3 p136 q136
                                    cases e136
                                    replace p136 := eq_true p136
                                    replace q136 := eq_true q136
                                    go_wp2
                                    go_meet
                                    case rel => exact ⟨_, (true), (by first | rfl | (simp; done) | (simp [*]; done)), H', ⟨by have := HK1.out; have := HK2.out; have := HK3.out; first | omega | exact Nat.le_refl _⟩, by repeat (first | exact Drawn0.refl _ | apply Drawn0.step)⟩
                                  · rw [if_neg c23] at H
                                    have c23b0 : ((rd (rd_L1 l0 x6_2) x7_3) == 0) = false := beq_eq_false_iff_ne.mpr c23
                                    have c23b1 : ((rd (rd_L1 l0 x6_2) x7_3) != 0) = true := bne_iff_ne.mpr c23
                                    have H' := Aside0.mk H
                                    clear H
                                    have p135 : 0 ≤ (x6_2 : Int) := of_decide_eq_true (by first | (with_reducible assumption) | assumption)
                                    have q135 : x6_2 < (l0.length : Int) := of_decide_eq_true (by first | (with_reducible assumption) | assumption)
                                    obtain ⟨ad135, A135_0, c135_0, e135, hx135_0, hl135_0, hi135_0⟩ := at_L1 HR0.out x6_2 p135 q135
                                    cases e135
                                    have HR135_0 := Aside0.mk hi135_0
                                    have HC135_0 := Aside0.mk hl135_0
                                    clear hi135_0 hl135_0
                                    replace p135 := eq_true p135
                                    replace q135 := eq_true q135
                                    have p136 : 0 ≤ (x7_3 : Int) := of_decide_eq_true (by first | (with_reducible assumption) | assumption)
                                    have q136 : x7_3 < ((rd_L1 l0 x6_2).length : Int) := of_decide_eq_true (by first | (with_reducible assumption) | assumption)
                                    obtain ⟨ad136, e136, hx136_0⟩ := Kd.at_int HR135_0.out x7_3 p136 q136
                                    cases e136
                                    replace p136 := eq_true p136
                                    replace q136 := eq_true q136
                                    go_wp2
                                    go_meet
                                    case rel => exact ⟨_, (false), (by first | rfl | (simp; done) | (simp [*]; done)), H', ⟨by have := HK1.out; have := HK2.out; have := HK3.out; first | omega | exact Nat.le_refl _⟩, by repeat (first | exact Drawn0.refl _ | apply Drawn0.step)⟩
                                · rw [if_neg c22] at H
                                  exact absurd H (by simp)
                              · rw [if_neg c21] at H
                                exact absurd H (by simp)
                            · rw [if_neg c20] at H
                              exact absurd H (by simp)
                          · rw [if_neg c19] at H
                            exact absurd H (by simp)
                        · rw [if_neg c18] at H
                          have c18b0 : (x6_2 == x7_3) = false := beq_eq_false_iff_ne.mpr c18
                          have c18b1 : (x6_2 != x7_3) = true := bne_iff_ne.mpr c18
                          (first | rw [c18b0] | (simp only [i64_w, i32_w]; rw [c18b0]) | skip)
                          by_cases c24 : 0 ≤ x6_2
                          · rw [if_pos c24] at H
                            have c24b0 : decide (0 ≤ x6_2) = true := decide_eq_true c24
                            clear c24
                            by_cases c25 : x6_2 < (l0.length : Int)
                            · rw [if_pos c25] at H
                              have c25b0 : decide (x6_2 < (l0.length : Int)) = true := decide_eq_true c25
                              clear c25
                              by_cases c26 : 0 ≤ x7_3
                              · rw [if_pos c26] at H
                                have c26b0 : decide (0 ≤ x7_3) = true := decide_eq_true c26
                                clear c26
                                by_cases c27 : x7_3 < ((rd_L1 l0 x6_2).length : Int)
                                · rw [if_pos c27] at H
                                  have c27b0 : decide (x7_3 < ((rd_L1 l0 x6_2).length : Int)) = true := decide_eq_true c27
                                  clear c27
                                  by_cases c28 : (rd (rd_L1 l0 x6_2) x7_3) = 1
                                  · rw [if_pos c28] at H
                                    have c28b0 : ((rd (rd_L1 l0 x6_2) x7_3) == 1) = true := beq_iff_eq.mpr c28
                                    have c28b1 : ((rd (rd_L1 l0 x6_2) x7_3) != 1) = false := bne_eq_false_iff_eq.mpr c28
                                    clear c28
                                    by_cases c29 : x7_3 < (l0.length : Int)
                                    · rw [if_pos c29] at H
                                      have c29b0 : decide (x7_3 < (l0.length : Int)) = true := decide_eq_true c29
                                      clear c29
                                      by_cases c30 : x6_2 < ((rd_L1 l0 x7_3).length : Int)
                                      · rw [if_pos c30] at H
                                        have c30b0 : decide (x6_2 < ((rd_L1 l0 x7_3).length : Int)) = true := decide_eq_true c30
                                        clear c30
                                        have H' := Aside0.mk H
                                        clear H
                                        have p137 : 0 ≤ (x6_2 : Int) := of_decide_eq_true (by first | (with_reducible assumption) | assumption)
                                        have q137 : x6_2 < (l0.length : Int) := of_decide_eq_true (by first | (with_reducible assumption) | assumption)
                                        obtain ⟨ad137, A137_0, c137_0, e137, hx137_0, hl137_0, hi137_0⟩ := at_L1 HR0.out x6_2 p137 q137
                                        cases e137
                                        have HR137_0 := Aside0.mk hi137_0
                                        have HC137_0 := Aside0.mk hl137_0
                                        clear hi137_0 hl137_0
                                        replace p137 := eq_true p137
                                        replace q137 := eq_true q137
                                        have p138 : 0 ≤ (x7_3 : Int) := of_decide_eq_true (by first | (with_reducible assumption) | assumption)
                                        have q138 : x7_3 < ((rd_L1 l0 x6_2).length : Int) := of_decide_eq_true (by first | (with_reducible assumption) | assumption)
                                        obtain ⟨ad138, e138, hx138_0⟩ := Kd.at_int HR137_0.out x7_3 p138 q138
                                        cases e138
                                        replace p138 := eq_true p138
                                        replace q138 := eq_true q138
                                        have p139 : 0 ≤ (x7_3 : Int) := of_decide_eq_true (by first | (with_reducible assumption) | assumption)
                                        have q139 : x7_3 < (l0.length : Int) := of_decide_eq_true (by first | (with_reducible assumption) | assumption)
                                        obtain ⟨ad139, A139_0, c139_0, e139, hx139_0, hl139_0, hi139_0⟩ := at_L1 HR0.out x7_3 p139 q139
                                        obtain rfl : ad137 = ad139 := (by injection e139)
                                        have HR139_0 := Aside0.mk hi139_0
                                        have HC139_0 := Aside0.mk hl139_0
                                        clear hi139_0 hl139_0
                                        replace p139 := eq_true p139
                                        replace q139 := eq_true q139
                                        have p140 : 0 ≤ (x6_2 : Int) := of_decide_eq_true (by first | (with_reducible assumption) | assumption)
                                        have q140 : x6_2 < ((rd_L1 l0 x7_3).length : Int) := of_decide_eq_true (by first | (with_reducible assumption) | assumption)
                                        obtain ⟨ad140, e140, hx140_0⟩ := Kd.at_int HR139_0.out x6_2 p140 q140
                                        cases e140
                                        replace p140 := eq_true p140
                                        replace q140 := eq_true q140
                                        go_wp2
                                        go_meet
                                        case rel => exact ⟨_, (((rd (rd_L1 l0 x7_3) x6_2) == 1)), (by first | rfl | (simp; done) | (simp [*]; done)), H', ⟨by have := HK1.out; have := HK2.out; have := HK3.out; first | omega | exact Nat.le_refl _⟩, by repeat (first | exact Drawn0.refl _ | apply Drawn0.step)⟩
                                      · rw [if_neg c30] at H
                                        exact absurd H (by simp)
                                    · rw [if_neg c29] at H
                                      exact absurd H (by simp)
                                  · rw [if_neg c28] at H
                                    have c28b0 : ((rd (rd_L1 l0 x6_2) x7_3) == 1) = false := beq_eq_false_iff_ne.mpr c28
                                    have c28b1 : ((rd (rd_L1 l0 x6_2) x7_3) != 1) = true := bne_iff_ne.mpr c28
                                    have H' := Aside0.mk H
                                    clear H
                                    have p137 : 0 ≤ (x6_2 : Int) := of_decide_eq_true (by first | (with_reducible assumption) | assumption)
                                    have q137 : x6_2 < (l0.length : Int) := of_decide_eq_true (by first | (with_reducible assumption) | assumption)
                                    obtain ⟨ad137, A137_0, c137_0, e137, hx137_0, hl137_0, hi137_0⟩ := at_L1 HR0.out x6_2 p137 q137
                                    cases e137
                                    have HR137_0 := Aside0.mk hi137_0
                                    have HC137_0 := Aside0.mk hl137_0
                                    clear hi137_0 hl137_0
                                    replace p137 := eq_true p137
                                    replace q137 := eq_true q137
                                    have p138 : 0 ≤ (x7_3 : Int) := of_decide_eq_true (by first | (with_reducible assumption) | assumption)
                                    have q138 : x7_3 < ((rd_L1 l0 x6_2).length : Int) := of_decide_eq_true (by first | (with_reducible assumption) | assumption)
                                    obtain ⟨ad138, e138, hx138_0⟩ := Kd.at_int HR137_0.out x7_3 p138 q138
                                    cases e138
                                    replace p138 := eq_true p138
                                    replace q138 := eq_true q138
                                    go_wp2
                                    go_meet
                                    case rel => exact ⟨_, (false), (by first | rfl | (simp; done) | (simp [*]; done)), H', ⟨by have := HK1.out; have := HK2.out; have := HK3.out; first | omega | exact Nat.le_refl _⟩, by repeat (first | exact Drawn0.refl _ | apply Drawn0.step)⟩
                                · rw [if_neg c27] at H
                                  exact absurd H (by simp)
                              · rw [if_neg c26] at H
                                exact absurd H (by simp)
                            · rw [if_neg c25] at H
                              exact absurd H (by simp)
                          · rw [if_neg c24] at H
                            exact absurd H (by simp)
                      case rest =>
                        clear HC17
                        try clear c1
                        try clear p1
                        try clear q1
                        try clear hx1
                        try clear c2
                        try clear p2
                        try clear c3
                        try clear c4
                        try clear c4b0
                        try clear c5
                        try clear c5b0
                        try clear c6
                        try clear c6b0
                        try clear p6
                        try clear c7
                        try clear c7b0
                        try clear c7b1
                        try clear c7b2
                        try clear c8
                        try clear c8b0
                        try clear c9
                        try clear c9b0
                        try clear c10
                        try clear c10b0
                        try clear c11
                        try clear c11b0
                        try clear c12
                        try clear c12b0
                        try clear c13
                        try clear p13
                        try clear q13
                        try clear hx13
                        try clear c14
                        try clear p14
                        try clear q14
                        try clear hx14
                        try clear c15
                        try clear c15b0
                        try clear c16
                        try clear c16b0
                        try clear c18
                        try clear c18b0
                        try clear c18b1
                        try clear c19
                        try clear c19b0
                        try clear c20
                        try clear c20b0
                        try clear c21
                        try clear c21b0
                        try clear c22
                        try clear c22b0
                        try clear c23
                        try clear c23b0
                        try clear c23b1
                        try clear c24
                        try clear c24b0
                        try clear c25
                        try clear c25b0
                        try clear c26
                        try clear c26b0
                        try clear c27
                        try clear c27b0
                        try clear c28
                        try clear c28b0
                        try clear c28b1
                        try clear c29
                        try clear c29b0
                        try clear c30
                        try clear c30b0
                        try clear hx131_0
                        try clear hx132_0
                        try clear hx133_0
                        try clear hx135_0
                        try clear hx136_0
                        try clear hx137_0
                        try clear hx138_0
                        try clear hx139_0
                        try clear hx140_0
                        try clear p1
                        try clear p13
                        try clear p131
                        try clear p132
                        try clear p133
                        try clear p135
                        try clear p136
                        try clear p137
                        try clear p138
                        try clear p139
                        try clear p140
                        try clear p2
                        try clear p6
                        try clear q1
                        try clear q13
                        try clear q131
                        try clear q132
                        try clear q133
                        try clear q135
                        try clear q136
                        try clear q137
                        try clear q138
                        try clear q139
                        try clear q140
                        obtain ⟨kq, x87_16, rfl, HA, HJ16, ⟨mc16, rfl⟩⟩ := hcut
                        cases kq with
                        | zero => exact absurd HA.out (by simp [spec_OrderOk.j4])
                        | succ kj16 =>
                          have H := HA.out
                          clear HA
                          simp only [spec_OrderOk.j4] at H
                          by_cases c31 : x87_16 = true
                          · subst c31
                            have H1 : (some false) = some r := by rw [if_pos rfl] at H; exact H
                            clear H
                            have H := H1
                            clear H1
                            obtain rfl := Option.some.inj H
                            go_wp2
                            go_ret
                            exact ⟨by first | rfl | (simp; done) | (simp [*]; done), by repeat (first | exact Drawn0.refl _ | apply Drawn0.step)⟩
                          · replace c31 := Bool.eq_false_iff.mpr c31
                            subst c31
                            have H1 : (spec_OrderOk.l4 kj16 l0 (l0.length : Int) x6_2 x7_3 0) = some r := by rw [if_neg (show ¬ (false = true) by decide)] at H; exact H
                            clear H
                            have H := H1
                            clear H1
                            have H' := Aside0.mk H
                            clear H
                            go_wp2
                            go_loopg [8] kj16 (fun kq v8 w' => ∃ (x8_5 : Int), v8 = .int .i64 x8_5 ∧ Aside0 (spec_OrderOk.l4 kq l0 (l0.length : Int) x6_2 x7_3 x8_5 = some r) ∧ Aside0 (kq ≤ kj16) ∧ Drawn0 w w')
                            case atStart => exact ⟨(0), (by first | rfl | (simp; done) | (simp [*]; done)), H', ⟨Nat.le_refl _⟩, by repeat (first | exact Drawn0.refl _ | apply Drawn0.step)⟩
                            case round =>
                              clear H'
                              try clear c1
                              try clear p1
                              try clear q1
                              try clear hx1
                              try clear c2
                              try clear p2
                              try clear c3
                              try clear c4
                              try clear c4b0
                              try clear c5
                              try clear c5b0
                              try clear c6
                              try clear c6b0
                              try clear p6
                              try clear c7
                              try clear c7b0
                              try clear c7b1
                              try clear c7b2
                              try clear c8
                              try clear c8b0
                              try clear c9
                              try clear c9b0
                              try clear c10
                              try clear c10b0
                              try clear c11
                              try clear c11b0
                              try clear c12
                              try clear c12b0
                              try clear c13
                              try clear p13
                              try clear q13
                              try clear hx13
                              try clear c14
                              try clear p14
                              try clear q14
                              try clear hx14
                              try clear c15
                              try clear c15b0
                              try clear c16
                              try clear c16b0
                              try clear c18
                              try clear c18b0
                              try clear c18b1
                              try clear c19
                              try clear c19b0
                              try clear c20
                              try clear c20b0
                              try clear c21
                              try clear c21b0
                              try clear c22
                              try clear c22b0
                              try clear c23
                              try clear c23b0
                              try clear c23b1
                              try clear c24
                              try clear c24b0
                              try clear c25
                              try clear c25b0
                              try clear c26
                              try clear c26b0
                              try clear c27
                              try clear c27b0
                              try clear c28
                              try clear c28b0
                              try clear c28b1
                              try clear c29
                              try clear c29b0
                              try clear c30
                              try clear c30b0
                              try clear c31
                              try clear hx131_0
                              try clear hx132_0
                              try clear hx133_0
                              try clear hx135_0
                              try clear hx136_0
                              try clear hx137_0
                              try clear hx138_0
                              try clear hx139_0
                              try clear hx140_0
                              try clear p1
                              try clear p13
                              try clear p131
                              try clear p132
                              try clear p133
                              try clear p135
                              try clear p136
                              try clear p137
                              try clear p138
                              try clear p139
                              try clear p14
                              try clear p140
                              try clear p2
                              try clear p6
                              try clear q1
                              try clear q13
                              try clear q131
                              try clear q132
                              try clear q133
                              try clear q135
                              try clear q136
                              try clear q137
                              try clear q138
                              try clear q139
                              try clear q14
                              try clear q140
                              obtain ⟨x8_5, rfl, HA, HK5, ⟨m5, rfl⟩⟩ := hrel
                              cases gk with
                              | zero => exact absurd HA.out (by simp [spec_OrderOk.l4])
                              | succ k5 =>
                                have H := HA.out
                                clear HA
                                simp only [spec_OrderOk.l4] at H
                                by_cases c32 : x8_5 < (l0.length : Int)
                                · rw [if_pos c32] at H
                                  have c32b0 : decide (x8_5 < (l0.length : Int)) = true := decide_eq_true c32
                                  clear c32
                                  by_cases c33 : 0 ≤ x6_2
                                  · rw [if_pos c33] at H
                                    have c33b0 : decide (0 ≤ x6_2) = true := decide_eq_true c33
                                    clear c33
                                    by_cases c34 : x6_2 < (l0.length : Int)
                                    · rw [if_pos c34] at H
                                      have c34b0 : decide (x6_2 < (l0.length : Int)) = true := decide_eq_true c34
                                      clear c34
                                      by_cases c35 : 0 ≤ x7_3
                                      · rw [if_pos c35] at H
                                        have c35b0 : decide (0 ≤ x7_3) = true := decide_eq_true c35
                                        clear c35
                                        by_cases c36 : x7_3 < ((rd_L1 l0 x6_2).length : Int)
                                        · rw [if_pos c36] at H
                                          have c36b0 : decide (x7_3 < ((rd_L1 l0 x6_2).length : Int)) = true := decide_eq_true c36
                                          clear c36
                                          by_cases c37 : (rd (rd_L1 l0 x6_2) x7_3) = 1
                                          · rw [if_pos c37] at H
                                            have c37b0 : ((rd (rd_L1 l0 x6_2) x7_3) == 1) = true := beq_iff_eq.mpr c37
                                            have c37b1 : ((rd (rd_L1 l0 x6_2) x7_3) != 1) = false := bne_eq_false_iff_eq.mpr c37
                                            clear c37
                                            by_cases c38 : x7_3 < (l0.length : Int)
                                            · rw [if_pos c38] at H
                                              have c38b0 : decide (x7_3 < (l0.length : Int)) = true := decide_eq_true c38
                                              clear c38
                                              by_cases c39 : 0 ≤ x8_5
                                              · rw [if_pos c39] at H
                                                have c39b0 : decide (0 ≤ x8_5) = true := decide_eq_true c39
                                                clear c39
                                                by_cases c40 : x8_5 < ((rd_L1 l0 x7_3).length : Int)
                                                · rw [if_pos c40] at H
                                                  have c40b0 : decide (x8_5 < ((rd_L1 l0 x7_3).length : Int)) = true := decide_eq_true c40
                                                  clear c40
                                                  by_cases c41 : (rd (rd_L1 l0 x7_3) x8_5) = 1
                                                  · rw [if_pos c41] at H
                                                    have c41b0 : ((rd (rd_L1 l0 x7_3) x8_5) == 1) = true := beq_iff_eq.mpr c41
                                                    have c41b1 : ((rd (rd_L1 l0 x7_3) x8_5) != 1) = false := bne_eq_false_iff_eq.mpr c41
                                                    clear c41
                                                    by_cases c42 : x8_5 < ((rd_L1 l0 x6_2).length : Int)
                                                    · rw [if_pos c42] at H
                                                      have c42b0 : decide (x8_5 < ((rd_L1 l0 x6_2).length : Int)) = true := decide_eq_true c42
                                                      clear c42
                                                      by_cases c43 : (rd (rd_L1 l0 x6_2) x8_5) = 0
                                                      · rw [if_pos c43] at H
                                                        have c43b0 : ((rd (rd_L1 l0 x6_2) x8_5) == 0) = true := beq_iff_eq.mpr c43
                                                        have c43b1 : ((rd (rd_L1 l0 x6_2) x8_5) != 0) = false := bne_eq_false_iff_eq.mpr c43
                                                        clear c43
                                                        obtain rfl := Option.some.inj H
                                                        have p141 : 0 ≤ (x6_2 : Int) := of_decide_eq_true (by first | (with_reducible assumption) | assumption)
                                                        have q141 : x6_2 < (l0.length : Int) := of_decide_eq_true (by first | (with_reducible assumption) | assumption)
                                                        obtain ⟨ad141, A141_0, c141_0, e141, hx141_0, hl141_0, hi141_0⟩ := at_L1 HR0.out x6_2 p141 q141
                                                        cases e141
                                                        have HR141_0 := Aside0.mk hi141_0
                                                        have HC141_0 := Aside0.mk hl141_0
                                                        clear hi141_0 hl141_0
                                                        replace p141 := eq_true p141
                                                        replace q141 := eq_true q141
                                                        have p142 : 0 ≤ (x7_3 : Int) := of_decide_eq_true (by first | (with_reducible assumption) | assumption)
                                                        have q142 : x7_3 < ((rd_L1 l0 x6_2).length : Int) := of_decide_eq_true (by first | (with_reducible assumption) | assumption)
                                                        obtain ⟨ad142, e142, hx142_0⟩ := Kd.at_int HR141_0.out x7_3 p142 q142
                                                        cases e142
                                                        replace p142 := eq_true p142
                                                        replace q142 := eq_true q142
                                                        have p143 : 0 ≤ (x7_3 : Int) := of_decide_eq_true (by first | (with_reducible assumption) | assumption)
                                                        have q143 : x7_3 < (l0.length : Int) := of_decide_eq_true (by first | (with_reducible assumption) | assumption)
                                                        obtain ⟨ad143, A143_0, c143_0, e143, hx143_0, hl143_0, hi143_0⟩ := at_L1 HR0.out x7_3 p143 q143
                                                        obtain rfl : ad141 = ad143 := (by injection e143)
                                                        have HR143_0 := Aside0.mk hi143_0
                                                        have HC143_0 := Aside0.mk hl143_0
                                                        clear hi143_0 hl143_0
                                                        replace p143 := eq_true p143
                                                        replace q143 := eq_true q143
                                                        have p144 : 0 ≤ (x8_5 : Int) := of_decide_eq_true (by first | (with_reducible assumption) | assumption)
                                                        have q144 : x8_5 < ((rd_L1 l0 x7_3).length : Int) := of_decide_eq_true (by first | (with_reducible assumption) | assumption)
                                                        obtain ⟨ad144, e144, hx144_0⟩ := Kd.at_int HR143_0.out x8_5 p144 q144
                                                        cases e144
                                                        replace p144 := eq_true p144
                                                        replace q144 := eq_true q144
                                                        have p145 : 0 ≤ (x6_2 : Int) := of_decide_eq_true (by first | (with_reducible assumption) | assumption)
                                                        have q145 : x6_2 < (l0.length : Int) := of_decide_eq_true (by first | (with_reducible assumption) | assumption)
                                                        obtain ⟨ad145, A145_0, c145_0, e145, hx145_0, hl145_0, hi145_0⟩ := at_L1 HR0.out x6_2 p145 q145
                                                        obtain rfl : ad141 = ad145 := (by injection e145)
                                                        have HR145_0 := Aside0.mk hi145_0
                                                        have HC145_0 := Aside0.mk hl145_0
                                                        clear hi145_0 hl145_0
                                                        replace p145 := eq_true p145
                                                        replace q145 := eq_true q145
                                                        have ea_ := Option.some.inj (hx141_0.symm.trans hx145_0)
                                                        injection ea_ with ea_ en_ ec_
                                                        subst ea_
                                                        subst ec_
                                                        clear en_
                                                        have p146 : 0 ≤ (x8_5 : Int) := of_decide_eq_true (by first | (with_reducible assumption) | assumption)
                                                        have q146 : x8_5 < ((rd_L1 l0 x6_2).length : Int) := of_decide_eq_true (by first | (with_reducible assumption) | assumption)
                                                        obtain ⟨ad146, e146, hx146_0⟩ := Kd.at_int HR145_0.out x8_5 p146 q146
                                                        cases e146
                                                        replace p146 := eq_true p146
                                                        replace q146 := eq_true q146
                                                        go_wp2
                                                        go_ret
                                                        exact ⟨by first | rfl | (simp; done) | (simp [*]; done), by repeat (first | exact Drawn0.refl _ | apply Drawn0.step)⟩
                                                      · rw [if_neg c43] at H
                                                        have c43b0 : ((rd (rd_L1 l0 x6_2) x8_5) == 0) = false := beq_eq_false_iff_ne.mpr c43
                                                        have c43b1 : ((rd (rd_L1 l0 x6_2) x8_5) != 0) = true := bne_iff_ne.mpr c43
                                                        have H' := Aside0.mk H
                                                        clear H
                                                        have p141 : 0 ≤ (x6_2 : Int) := of_decide_eq_true (by first | (with_reducible assumption) | assumption)
                                                        have q141 : x6_2 < (l0.length : Int) := of_decide_eq_true (by first | (with_reducible assumption) | assumption)
                                                        obtain ⟨ad141, A141_0, c141_0, e141, hx141_0, hl141_0, hi141_0⟩ := at_L1 HR0.out x6_2 p141 q141
                                                        cases e141
                                                        have HR141_0 := Aside0.mk hi141_0
                                                        have HC141_0 := Aside0.mk hl141_0
                                                        clear hi141_0 hl141_0
                                                        replace p141 := eq_true p141
                                                        replace q141 := eq_true q141
                                                        have p142 : 0 ≤ (x7_3 : Int) := of_decide_eq_true (by first | (with_reducible assumption) | assumption)
                                                        have q142 : x7_3 < ((rd_L1 l0 x6_2).length : Int) := of_decide_eq_true (by first | (with_reducible assumption) | assumption)
                                                        obtain ⟨ad142, e142, hx142_0⟩ := Kd.at_int HR141_0.out x7_3 p142 q142
                                                        cases e142
                                                        replace p142 := eq_true p142
                                                        replace q142 := eq_true q142
                                                        have p143 : 0 ≤ (x7_3 : Int) := of_decide_eq_true (by first | (with_reducible assumption) | assumption)
                                                        have q143 : x7_3 < (l0.length : Int) := of_decide_eq_true (by first | (with_reducible assumption) | assumption)
                                                        obtain ⟨ad143, A143_0, c143_0, e143, hx143_0, hl143_0, hi143_0⟩ := at_L1 HR0.out x7_3 p143 q143
                                                        obtain rfl : ad141 = ad143 := (by injection e143)
                                                        have HR143_0 := Aside0.mk hi143_0
                                                        have HC143_0 := Aside0.mk hl143_0
                                                        clear hi143_0 hl143_0
                                                        replace p143 := eq_true p143
                                                        replace q143 := eq_true q143
                                                        have p144 : 0 ≤ (x8_5 : Int) := of_decide_eq_true (by first | (with_reducible assumption) | assumption)
                                                        have q144 : x8_5 < ((rd_L1 l0 x7_3).length : Int) := of_decide_eq_true (by first | (with_reducible assumption) | assumption)
                                                        obtain ⟨ad144, e144, hx144_0⟩ := Kd.at_int HR143_0.out x8_5 p144 q144
                                                        cases e144
                                                        replace p144 := eq_true p144
                                                        replace q144 := eq_true q144
                                                        have p145 : 0 ≤ (x6_2 : Int) := of_decide_eq_true (by first | (with_reducible assumption) | assumption)
                                                        have q145 : x6_2 < (l0.length : Int) := of_decide_eq_true (by first | (with_reducible assumption) | assumption)
                                                        obtain ⟨ad145, A145_0, c145_0, e145, hx145_0, hl145_0, hi145_0⟩ := at_L1 HR0.out x6_2 p145 q145
                                                        obtain rfl : ad141 = ad145 := (by injection e145)
                                                        have HR145_0 := Aside0.mk hi145_0
                                                        have HC145_0 := Aside0.mk hl145_0
                                                        clear hi145_0 hl145_0
                                                        replace p145 := eq_true p145
                                                        replace q145 := eq_true q145
                                                        have ea_ := Option.some.inj (hx141_0.symm.trans hx145_0)
                                                        injection ea_ with ea_ en_ ec_
                                                        subst ea_
                                                        subst ec_
                                                        clear en_
                                                        have p146 : 0 ≤ (x8_5 : Int) := of_decide_eq_true (by first | (with_reducible assumption) | assumption)
                                                        have q146 : x8_5 < ((rd_L1 l0 x6_2).length : Int) := of_decide_eq_true (by first | (with_reducible assumption) | assumption)
                                                        obtain ⟨ad146, e146, hx146_0⟩ := Kd.at_int HR145_0.out x8_5 p146 q146
                                                        cases e146
                                                        replace p146 := eq_true p146
                                                        replace q146 := eq_true q146
                                                        go_wp2
                                                        go_roundg k5
                                                        case measure => have := HK1.out; have := HK2.out; have := HK3.out; have := HJ16.out; have := HK5.out; omega
                                                        case rel => exact ⟨(wrap64 (x8_5 + 1)), (by first | rfl | (simp; done) | (simp [*]; done)), H', ⟨by have := HK1.out; have := HK2.out; have := HK3.out; have := HJ16.out; have := HK5.out; omega⟩, by repeat (first | exact Drawn0.refl _ | apply Drawn0.step)⟩
                                                    · rw [if_neg c42] at H
                                                      exact absurd H (by simp)
                                                  · rw [if_neg c41] at H
                                                    have c41b0 : ((rd (rd_L1 l0 x7_3) x8_5) == 1) = false := beq_eq_false_iff_ne.mpr c41
                                                    have c41b1 : ((rd (rd_L1 l0 x7_3) x8_5) != 1) = true := bne_iff_ne.mpr c41
                                                    have H' := Aside0.mk H
                                                    clear H
                                                    have p141 : 0 ≤ (x6_2 : Int) := of_decide_eq_true (by first | (with_reducible assumption) | assumption)
                                                    have q141 : x6_2 < (l0.length : Int) := of_decide_eq_true (by first | (with_reducible assumption) | assumption)
                                                    obtain ⟨ad141, A141_0, c141_0, e141, hx141_0, hl141_0, hi141_0⟩ := at_L1 HR0.out x6_2 p141 q141
                                                    cases e141
                                                    have HR141_0 := Aside0.mk hi141_0
                                                    have HC141_0 := Aside0.mk hl141_0
                                                    clear hi141_0 hl141_0
                                                    replace p141 := eq_true p141
                                                    replace q141 := eq_true q141
                                                    have p142 : 0 ≤ (x7_3 : Int) := of_decide_eq_true (by first | (with_reducible assumption) | assumption)
                                                    have q142 : x7_3 < ((rd_L1 l0 x6_2).length : Int) := of_decide_eq_true (by first | (with_reducible assumption) | assumption)
                                                    obtain ⟨ad142, e142, hx142_0⟩ := Kd.at_int HR141_0.out x7_3 p142 q142
                                                    cases e142
                                                    replace p142 := eq_true p142
                                                    replace q142 := eq_true q142
                                                    have p143 : 0 ≤ (x7_3 : Int) := of_decide_eq_true (by first | (with_reducible assumption) | assumption)
                                                    have q143 : x7_3 < (l0.length : Int) := of_decide_eq_true (by first | (with_reducible assumption) | assumption)
                                                    obtain ⟨ad143, A143_0, c143_0, e143, hx143_0, hl143_0, hi143_0⟩ := at_L1 HR0.out x7_3 p143 q143
                                                    obtain rfl : ad141 = ad143 := (by injection e143)
                                                    have HR143_0 := Aside0.mk hi143_0
                                                    have HC143_0 := Aside0.mk hl143_0
                                                    clear hi143_0 hl143_0
                                                    replace p143 := eq_true p143
                                                    replace q143 := eq_true q143
                                                    have p144 : 0 ≤ (x8_5 : Int) := of_decide_eq_true (by first | (with_reducible assumption) | assumption)
                                                    have q144 : x8_5 < ((rd_L1 l0 x7_3).length : Int) := of_decide_eq_true (by first | (with_reducible assumption) | assumption)
                                                    obtain ⟨ad144, e144, hx144_0⟩ := Kd.at_int HR143_0.out x8_5 p144 q144
                                                    cases e144
                                                    replace p144 := eq_true p144
                                                    replace q144 := eq_true q144
                                                    go_wp2
                                                    go_roundg k5
                                                    case measure => have := HK1.out; have := HK2.out; have := HK3.out; have := HJ16.out; have := HK5.out; omega
                                                    case rel => exact ⟨(wrap64 (x8_5 + 1)), (by first | rfl | (simp; done) | (simp [*]; done)), H', ⟨by have := HK1.out; have := HK2.out; have := HK3.out; have := HJ16.out; have := HK5.out; omega⟩, by repeat (first | exact Drawn0.refl _ | apply Drawn0.step)⟩
                                                · rw [if_neg c40] at H
                                                  exact absurd H (by simp)
                                              · rw [if_neg c39] at H
                                                exact absurd H (by simp)
                                            · rw [if_neg c38] at H
                                              exact absurd H (by simp)
                                          · rw [if_neg c37] at H
                                            have c37b0 : ((rd (rd_L1 l0 x6_2) x7_3) == 1) = false := beq_eq_false_iff_ne.mpr c37
                                            have c37b1 : ((rd (rd_L1 l0 x6_2) x7_3) != 1) = true := bne_iff_ne.mpr c37
                                            have H' := Aside0.mk H
                                            clear H
                                            have p141 : 0 ≤ (x6_2 : Int) := of_decide_eq_true (by first | (with_reducible assumption) | assumption)
                                            have q141 : x6_2 < (l0.length : Int) := of_decide_eq_true (by first | (with_reducible assumption) | assumption)
                                            obtain ⟨ad141, A141_0, c141_0, e141, hx141_0, hl141_0, hi141_0⟩ := at_L1 HR0.out x6_2 p141 q141
                                            cases e141
                                            have HR141_0 := Aside0.mk hi141_0
                                            have HC141_0 := Aside0.mk hl141_0
                                            clear hi141_0 hl141_0
                                            replace p141 := eq_true p141
                                            replace q141 := eq_true q141
                                            have p142 : 0 ≤ (x7_3 : Int) := of_decide_eq_true (by first | (with_reducible assumption) | assumption)
                                            have q142 : x7_3 < ((rd_L1 l0 x6_2).length : Int) := of_decide_eq_true (by first | (with_reducible assumption) | assumption)
                                            obtain ⟨ad142, e142, hx142_0⟩ := Kd.at_int HR141_0.out x7_3 p142 q142
                                            cases e142
                                            replace p142 := eq_true p142
                                            replace q142 := eq_true q142
                                            go_wp2
                                            go_roundg k5
                                            case measure => have := HK1.out; have := HK2.out; have := HK3.out; have := HJ16.out; have := HK5.out; omega
                                            case rel => exact ⟨(wrap64 (x8_5 + 1)), (by first | rfl | (simp; done) | (simp [*]; done)), H', ⟨by have := HK1.out; have := HK2.out; have := HK3.out; have := HJ16.out; have := HK5.out; omega⟩, by repeat (first | exact Drawn0.refl _ | apply Drawn0.step)⟩
                                        · rw [if_neg c36] at H
                                          exact absurd H (by simp)
                                      · rw [if_neg c35] at H
                                        exact absurd H (by simp)
                                    · rw [if_neg c34] at H
                                      exact absurd H (by simp)
                                  · rw [if_neg c33] at H
                                    exact absurd H (by simp)
                                · rw [if_neg c32] at H
                                  have c32b0 : decide (x8_5 < (l0.length : Int)) = false := decide_eq_false c32
                                  clear c32
                                  have H' := Aside0.mk H
                                  clear H
                                  go_wp2
                                  go_roundg k5
                                  case measure => have := HK1.out; have := HK2.out; have := HK3.out; have := HJ16.out; have := HK5.out; omega
                                  case rel => exact ⟨(wrap64 (x7_3 + 1)), (by first | rfl | (simp; done) | (simp [*]; done)), H', ⟨by have := HK1.out; have := HK2.out; have := HK3.out; have := HJ16.out; have := HK5.out; omega⟩, by repeat (first | exact Drawn0.refl _ | apply Drawn0.step)⟩
                    · rw [if_neg c16] at H
                      have c16b0 : decide (x7_3 < (l0.length : Int)) = false := decide_eq_false c16
                      clear c16
                      have H' := Aside0.mk H
                      clear H
                      go_wp2
                      go_roundg k3
                      case measure => have := HK1.out; have := HK2.out; have := HK3.out; omega
                      case rel => exact ⟨(wrap64 (x6_2 + 1)), (by first | rfl | (simp; done) | (simp [*]; done)), H', ⟨by have := HK1.out; have := HK2.out; have := HK3.out; omega⟩, by repeat (first | exact Drawn0.refl _ | apply Drawn0.step)⟩
              · rw [if_neg c15] at H
                have c15b0 : decide (x6_2 < (l0.length : Int)) = false := decide_eq_false c15
                clear c15
                obtain rfl := Option.some.inj H
                go_wp2
                go_ret
                exact ⟨by first | rfl | (simp; done) | (simp [*]; done), by repeat (first | exact Drawn0.refl _ | apply Drawn0.step)⟩
  · replace c3 := Bool.eq_false_iff.mpr c3
    subst c3
    have H1 : (some false) = some r := by rw [if_neg (show ¬ (false = true) by decide)] at H; exact H
    clear H
    have H := H1
    clear H1
    obtain rfl := Option.some.inj H
    go_enter Try.func133, Try.ntmps133
    go_wp2_with (first | ((with_reducible refine gate_callee (f := 52) rfl ?_); refine goesL_ (some 12) rfl rfl Try.func52 (by kernel_rfl) rfl #[.int .i64 (l0.length : Int), .int .i64 1, .int .i64 12] rfl (by (try simp only [List.map_toArray, List.map_cons, List.map_nil]); first | done | rfl | (simp only [List.length_drop, List.length_take]; rfl)) ?_; (with_reducible refine (spec_l1In.calls (l0.length : Int) 1 12 false _ A2.out).mono ?_); rintro e w' ⟨rfl, ⟨nd, rfl⟩⟩; refine ⟨_, rfl, ?_⟩))
    go_ret
    exact ⟨by first | rfl | (simp; done) | (simp [*]; done), by repeat (first | exact Drawn0.refl _ | apply Drawn0.step)⟩
end Go.Proofs.Ythideghgdmokkaa.Print
end
section
namespace Go.Proofs.Ythideghgdmokkaa.Print
open Go.RowKit Go.Proofs.YthideghgdmokkaaW.PrintWords Go.Proofs.YthideghgdmokkaaW.PrintLast Go.Proofs.YthideghgdmokkaaW.PrintMore
attribute [local go_sem] max2_int min2_int max_two min_two max_three min_three max_four min_four   -- for this text's walks alone
set_option linter.unusedVariables false
set_option linter.unusedSimpArgs false
mutual
def spec_LatticeOk.l0 : Nat → List (List Int) → Int → Option (Bool)
  | 0, _, _ => none
  | k + 1, x0, x3 => if x3 < (x0.length : Int) then ((spec_OrderOk.f k x0).bind fun t147 => (spec_LatticeOk.j1 k x0 x3 t147)) else (spec_LatticeOk.j1 k x0 x3 false)
def spec_LatticeOk.j1 : Nat → List (List Int) → Int → Bool → Option (Bool)
  | 0, _, _, _ => none
  | k + 1, x0, x3, x12 => if x12 = true then (spec_LatticeOk.l1 k x0 x3 0) else ((spec_OrderOk.f k x0).bind fun t148 => (some t148))
def spec_LatticeOk.l1 : Nat → List (List Int) → Int → Int → Option (Bool)
  | 0, _, _, _ => none
  | k + 1, x0, x3, x4 => if x4 < x3 then ((spec_l1Meet.f k x0 x3 x4).bind fun t149 => (if t149 < 0 then (some false) else ((spec_l1Join.f k x0 x3 x4).bind fun t150 => (if t150 < 0 then (some false) else (spec_LatticeOk.l1 k x0 x3 (wrap64 (x4 + 1))))))) else (spec_LatticeOk.l0 k x0 (wrap64 (x3 + 1)))
end
def spec_LatticeOk.f (k : Nat) (l0 : List (List Int)) : Option (Bool) := spec_LatticeOk.l0 k l0 0
set_option maxHeartbeats 8000000 in
set_option maxRecDepth 100000 in
theorem spec_LatticeOk.calls (k : Nat) (A0 : Option Addr) (c0 : Nat) (l0 : List (List Int)) (r : Bool) (w : World) (hr0 : Kd.C (Kd.slice 3 (Kd.int .i64)) w A0 l0.length l0) (hc0 : l0.length ≤ c0) (h : spec_LatticeOk.f k l0 = some r) :
    Calls Try.prog 99 #[.slice A0 l0.length c0] w fun e w' => e = .returned (.bool r) ∧ Drawn0 w w' := by
  have HR0 := Aside0.mk hr0
  have HC0 := Aside0.mk hc0
  clear hr0 hc0
  have H : (spec_LatticeOk.l0 k l0 0) = some r := h
  clear h
  have H' := Aside0.mk H
  clear H
  go_enter Try.func99, Try.ntmps99
  go_wp2
  go_loopg [3] k (fun kq v3 w' => ∃ (x3_1 : Int), v3 = .int .i64 x3_1 ∧ Aside0 (spec_LatticeOk.l0 kq l0 x3_1 = some r) ∧ Aside0 (kq ≤ k) ∧ Drawn0 w w')
  case atStart => exact ⟨(0), (by first | rfl | (simp; done) | (simp [*]; done)), H', ⟨Nat.le_refl _⟩, by repeat (first | exact Drawn0.refl _ | apply Drawn0.step)⟩
  case round =>
    clear H'
    obtain ⟨x3_1, rfl, HA, HK1, ⟨m1, rfl⟩⟩ := hrel
    cases gk with
    | zero => exact absurd HA.out (by simp [spec_LatticeOk.l0])
    | succ k1 =>
      have H := HA.out
      clear HA
      simp only [spec_LatticeOk.l0] at H
      have HC2 := Aside0.mk H
      clear H
      go_upto_region 2 with (fail)
      go_cut [12] (fun v12 wc => ∃ (kq : Nat) (x12_1 : Bool), v12 = .bool x12_1 ∧ Aside0 (spec_LatticeOk.j1 kq l0 x3_1 x12_1 = some r) ∧ Aside0 (kq ≤ k1) ∧ Drawn0 w wc)
      case first =>
        have H := HC2.out
        clear HC2
        by_cases c3 : x3_1 < (l0.length : Int)
        · rw [if_pos c3] at H
          have c3b0 : decide (x3_1 < (l0.length : Int)) = true := decide_eq_true c3
          clear c3
          (first | rw [c3b0] | (simp only [i64_w, i32_w]; rw [c3b0]) | skip)
          replace H := Option.bind_eq_some_iff.mp H
          obtain ⟨t147, A40, H⟩ := H
          replace H : (spec_LatticeOk.j1 k1 l0 x3_1 t147) = some r := H
          have A4 := Aside0.mk A40
          clear A40
          have H' := Aside0.mk H
          clear H
          go_wp2_with (first | (go_at_call 133; (with_reducible refine (spec_OrderOk.calls k1 _ _ l0 t147 _ ?side1 ?side2 A4.out).mono ?_); (case side1 => repeat (first | exact HR0.out | (with_reducible refine Kd.C_alloc ?_ _) | (with_reducible refine Kd.C_drewN ?_ _) | (with_reducible refine Kd.C_drew ?_))); (case side2 => exact HC0.out); rintro e w' ⟨rfl, ⟨nd, rfl⟩⟩))
          go_meet
          case rel => exact ⟨_, (t147), (by first | rfl | (simp; done) | (simp [*]; done)), H', ⟨by have := HK1.out; first | omega | exact Nat.le_refl _⟩, by repeat (first | exact Drawn0.refl _ | apply Drawn0.step)⟩
        · rw [if_neg c3] at H
          have c3b0 : decide (x3_1 < (l0.length : Int)) = false := decide_eq_false c3
          clear c3
          (first | rw [c3b0] | (simp only [i64_w, i32_w]; rw [c3b0]) | skip)
          have H' := Aside0.mk H
          clear H
          go_wp2
          go_meet
          case rel => exact ⟨_, (false), (by first | rfl | (simp; done) | (simp [*]; done)), H', ⟨by have := HK1.out; first | omega | exact Nat.le_refl _⟩, by repeat (first | exact Drawn0.refl _ | apply Drawn0.step)⟩
      case rest =>
        clear HC2
        try clear p2
        try clear c3
        try clear c3b0
        obtain ⟨kq, x12_1, rfl, HA, HJ1, ⟨mc1, rfl⟩⟩ := hcut
        cases kq with
        | zero => exact absurd HA.out (by simp [spec_LatticeOk.j1])
        | succ kj1 =>
          have H := HA.out
          clear HA
          simp only [spec_LatticeOk.j1] at H
          by_cases c5 : x12_1 = true
          · subst c5
            have H1 : (spec_LatticeOk.l1 kj1 l0 x3_1 0) = some r := by rw [if_pos rfl] at H; exact H
            clear H
            have H := H1
            clear H1
            have H' := Aside0.mk H
            clear H
            go_wp2
            go_loopg [4] kj1 (fun kq v4 w' => ∃ (x4_3 : Int), v4 = .int .i64 x4_3 ∧ Aside0 (spec_LatticeOk.l1 kq l0 x3_1 x4_3 = some r) ∧ Aside0 (kq ≤ kj1) ∧ Drawn0 w w')
            case atStart => exact ⟨(0), (by first | rfl | (simp; done) | (simp [*]; done)), H', ⟨Nat.le_refl _⟩, by repeat (first | exact Drawn0.refl _ | apply Drawn0.step)⟩
            case round =>
              clear H'
              try clear c1
              try clear p2
              try clear c3
              try clear c3b0
              try clear c5
              try clear p2
              obtain ⟨x4_3, rfl, HA, HK3, ⟨m3, rfl⟩⟩ := hrel
              cases gk with
              | zero => exact absurd HA.out (by simp [spec_LatticeOk.l1])
              | succ k3 =>
                have H := HA.out
                clear HA
                simp only [spec_LatticeOk.l1] at H
                by_cases c6 : x4_3 < x3_1
                · rw [if_pos c6] at H
                  have c6b0 : decide (x4_3 < x3_1) = true := decide_eq_true c6
                  clear c6
                  replace H := Option.bind_eq_some_iff.mp H
                  obtain ⟨t149, A70, H⟩ := H
                  replace H : (if t149 < 0 then (some false) else ((spec_l1Join.f k3 l0 x3_1 x4_3).bind fun t150 => (if t150 < 0 then (some false) else (spec_LatticeOk.l1 k3 l0 x3_1 (wrap64 (x4_3 + 1)))))) = some r := H
                  have A7 := Aside0.mk A70
                  clear A70
                  by_cases c8 : t149 < 0
                  · rw [if_pos c8] at H
                    have c8b0 : decide (t149 < 0) = true := decide_eq_true c8
                    clear c8
                    obtain rfl := Option.some.inj H
                    go_wp2_with (first | ((with_reducible refine gate_callee (f := 101) rfl ?_); refine goesL_ (some 23) rfl rfl Try.func101 (by kernel_rfl) rfl #[.slice A0 l0.length c0, .int .i64 x3_1, .int .i64 x4_3] rfl (by (try simp only [List.map_toArray, List.map_cons, List.map_nil]); first | done | rfl | (simp only [List.length_drop, List.length_take]; rfl)) ?_; (with_reducible refine (spec_l1Meet.calls k3 _ _ l0 x3_1 x4_3 t149 _ ?side1 ?side2 A7.out).mono ?_); (case side1 => repeat (first | exact HR0.out | (with_reducible refine Kd.C_alloc ?_ _) | (with_reducible refine Kd.C_drewN ?_ _) | (with_reducible refine Kd.C_drew ?_))); (case side2 => exact HC0.out); rintro e w' ⟨rfl, ⟨nd, rfl⟩⟩; refine ⟨_, rfl, ?_⟩))
                    go_ret
                    exact ⟨by first | rfl | (simp; done) | (simp [*]; done), by repeat (first | exact Drawn0.refl _ | apply Drawn0.step)⟩
                  · rw [if_neg c8] at H
                    have c8b0 : decide (t149 < 0) = false := decide_eq_false c8
                    clear c8
                    replace H := Option.bind_eq_some_iff.mp H
                    obtain ⟨t150, A90, H⟩ := H
                    replace H : (if t150 < 0 then (some false) else (spec_LatticeOk.l1 k3 l0 x3_1 (wrap64 (x4_3 + 1)))) = some r := H
                    have A9 := Aside0.mk A90
                    clear A90
                    by_cases c10 : t150 < 0
                    · rw [if_pos c10] at H
                      have c10b0 : decide (t150 < 0) = true := decide_eq_true c10
                      clear c10
                      obtain rfl := Option.some.inj H
                      go_wp2_with (first | ((with_reducible refine gate_callee (f := 101) rfl ?_); refine goesL_ (some 23) rfl rfl Try.func101 (by kernel_rfl) rfl #[.slice A0 l0.length c0, .int .i64 x3_1, .int .i64 x4_3] rfl (by (try simp only [List.map_toArray, List.map_cons, List.map_nil]); first | done | rfl | (simp only [List.length_drop, List.length_take]; rfl)) ?_; (with_reducible refine (spec_l1Meet.calls k3 _ _ l0 x3_1 x4_3 t149 _ ?side1 ?side2 A7.out).mono ?_); (case side1 => repeat (first | exact HR0.out | (with_reducible refine Kd.C_alloc ?_ _) | (with_reducible refine Kd.C_drewN ?_ _) | (with_reducible refine Kd.C_drew ?_))); (case side2 => exact HC0.out); rintro e w' ⟨rfl, ⟨nd, rfl⟩⟩; refine ⟨_, rfl, ?_⟩) | (go_at_call 102; (with_reducible refine (spec_l1Join.calls k3 _ _ l0 x3_1 x4_3 t150 _ ?side1 ?side2 A9.out).mono ?_); (case side1 => repeat (first | exact HR0.out | (with_reducible refine Kd.C_alloc ?_ _) | (with_reducible refine Kd.C_drewN ?_ _) | (with_reducible refine Kd.C_drew ?_))); (case side2 => exact HC0.out); rintro e w' ⟨rfl, ⟨nd, rfl⟩⟩))
                      go_ret
                      exact ⟨by first | rfl | (simp; done) | (simp [*]; done), by repeat (first | exact Drawn0.refl _ | apply Drawn0.step)⟩
                    · rw [if_neg c10] at H
                      have c10b0 : decide (t150 < 0) = false := decide_eq_false c10
                      clear c10
                      have H' := Aside0.mk H
                      clear H
                      go_wp2_with (first | ((with_reducible refine gate_callee (f := 101) rfl ?_); refine goesL_ (some 23) rfl rfl Try.func101 (by kernel_rfl) rfl #[.slice A0 l0.length c0, .int .i64 x3_1, .int .i64 x4_3] rfl (by (try simp only [List.map_toArray, List.map_cons, List.map_nil]); first | done | rfl | (simp only [List.length_drop, List.length_take]; rfl)) ?_; (with_reducible refine (spec_l1Meet.calls k3 _ _ l0 x3_1 x4_3 t149 _ ?side1 ?side2 A7.out).mono ?_); (case side1 => repeat (first | exact HR0.out | (with_reducible refine Kd.C_alloc ?_ _) | (with_reducible refine Kd.C_drewN ?_ _) | (with_reducible refine Kd.C_drew ?_))); (case side2 => exact HC0.out); rintro e w' ⟨rfl, ⟨nd, rfl⟩⟩; refine ⟨_, rfl, ?_⟩) | (go_at_call 102; (with_reducible refine (spec_l1Join.calls k3 _ _ l0 x3_1 x4_3 t150 _ ?side1 ?side2 A9.out).mono ?_); (case side1 => repeat (first | exact HR0.out | (with_reducible refine Kd.C_alloc ?_ _) | (with_reducible refine Kd.C_drewN ?_ _) | (with_reducible refine Kd.C_drew ?_))); (case side2 => exact HC0.out); rintro e w' ⟨rfl, ⟨nd, rfl⟩⟩))
                      go_roundg k3
                      case measure => have := HK1.out; have := HJ1.out; have := HK3.out; omega
                      case rel => exact ⟨(wrap64 (x4_3 + 1)), (by first | rfl | (simp; done) | (simp [*]; done)), H', ⟨by have := HK1.out; have := HJ1.out; have := HK3.out; omega⟩, by repeat (first | exact Drawn0.refl _ | apply Drawn0.step)⟩
                · rw [if_neg c6] at H
                  have c6b0 : decide (x4_3 < x3_1) = false := decide_eq_false c6
                  clear c6
                  have H' := Aside0.mk H
                  clear H
                  go_wp2
                  go_roundg k3
                  case measure => have := HK1.out; have := HJ1.out; have := HK3.out; omega
                  case rel => exact ⟨(wrap64 (x3_1 + 1)), (by first | rfl | (simp; done) | (simp [*]; done)), H', ⟨by have := HK1.out; have := HJ1.out; have := HK3.out; omega⟩, by repeat (first | exact Drawn0.refl _ | apply Drawn0.step)⟩
          · replace c5 := Bool.eq_false_iff.mpr c5
            subst c5
            have H1 : ((spec_OrderOk.f kj1 l0).bind fun t148 => (some t148)) = some r := by rw [if_neg (show ¬ (false = true) by decide)] at H; exact H
            clear H
            have H := H1
            clear H1
            replace H := Option.bind_eq_some_iff.mp H
            obtain ⟨t148, A110, H⟩ := H
            replace H : (some t148) = some r := H
            have A11 := Aside0.mk A110
            clear A110
            obtain rfl := Option.some.inj H
            go_wp2_with (first | ((with_reducible refine gate_callee (f := 133) rfl ?_); refine goesL_ (some 33) rfl rfl Try.func133 (by kernel_rfl) rfl #[.slice A0 l0.length c0] rfl (by (try simp only [List.map_toArray, List.map_cons, List.map_nil]); first | done | rfl | (simp only [List.length_drop, List.length_take]; rfl)) ?_; (with_reducible refine (spec_OrderOk.calls kj1 _ _ l0 t148 _ ?side1 ?side2 A11.out).mono ?_); (case side1 => repeat (first | exact HR0.out | (with_reducible refine Kd.C_alloc ?_ _) | (with_reducible refine Kd.C_drewN ?_ _) | (with_reducible refine Kd.C_drew ?_))); (case side2 => exact HC0.out); rintro e w' ⟨rfl, ⟨nd, rfl⟩⟩; refine ⟨_, rfl, ?_⟩))
            go_ret
            exact ⟨by first | rfl | (simp; done) | (simp [*]; done), by repeat (first | exact Drawn0.refl _ | apply Drawn0.step)⟩
end Go.Proofs.Ythideghgdmokkaa.Print
end
section
namespace Go.Proofs.Ythideghgdmokkaa.Print
open Go.RowKit Go.Proofs.YthideghgdmokkaaW.PrintWords Go.Proofs.YthideghgdmokkaaW.PrintLast Go.Proofs.YthideghgdmokkaaW.PrintMore
attribute [local go_sem] max2_int min2_int max_two min_two max_three min_three max_four min_four   -- for this text's walks alone
set_option linter.unusedVariables false
set_option linter.unusedSimpArgs false
mutual
def spec_LeastOf.l0 : Nat → List (List Int) → Int → Option (Int × Bool)
  | 0, _, _ => none
  | k + 1, x0, x4 => if x4 < (x0.length : Int) then ((spec_OrderOk.f k x0).bind fun t151 => (spec_LeastOf.j1 k x0 x4 t151)) else (spec_LeastOf.j1 k x0 x4 false)
def spec_LeastOf.j1 : Nat → List (List Int) → Int → Bool → Option (Int × Bool)
  | 0, _, _, _ => none
  | k + 1, x0, x4, x14 => if x14 = true then (spec_LeastOf.l1 k x0 x4 true 0) else (some ((-1), false))
def spec_LeastOf.l1 : Nat → List (List Int) → Int → Bool → Int → Option (Int × Bool)
  | 0, _, _, _, _ => none
  | k + 1, x0, x4, x5, x6 => if x6 < (x0.length : Int) then (if x5 = true then (if 0 ≤ x4 then (if x4 < (x0.length : Int) then (if 0 ≤ x6 then (if x6 < ((rd_L1 x0 x4).length : Int) then (spec_LeastOf.l1 k x0 x4 ((rd (rd_L1 x0 x4) x6) == 1) (wrap64 (x6 + 1))) else (none)) else (none)) else (none)) else (none)) else (spec_LeastOf.l1 k x0 x4 false (wrap64 (x6 + 1)))) else (if x5 = true then (some (x4, true)) else (spec_LeastOf.l0 k x0 (wrap64 (x4 + 1))))
end
def spec_LeastOf.f (k : Nat) (l0 : List (List Int)) : Option (Int × Bool) := spec_LeastOf.l0 k l0 0
set_option maxHeartbeats 8000000 in
set_option maxRecDepth 100000 in
theorem spec_LeastOf.calls (k : Nat) (A0 : Option Addr) (c0 : Nat) (l0 : List (List Int)) (r1 : Int) (r2 : Bool) (w : World) (hr0 : Kd.C (Kd.slice 3 (Kd.int .i64)) w A0 l0.length l0) (hc0 : l0.length ≤ c0) (h : spec_LeastOf.f k l0 = some (r1, r2)) :
    Calls Try.prog 100 #[.slice A0 l0.length c0] w fun e w' => e = .returned (.tuple #[.int .i64 r1, .bool r2]) ∧ Drawn0 w w' := by
  have HR0 := Aside0.mk hr0
  have HC0 := Aside0.mk hc0
  clear hr0 hc0
  have H : (spec_LeastOf.l0 k l0 0) = some (r1, r2) := h
  clear h
  have H' := Aside0.mk H
  clear H
  go_enter Try.func100, Try.ntmps100
  go_wp2
  go_loopg [4] k (fun kq v4 w' => ∃ (x4_1 : Int), v4 = .int .i64 x4_1 ∧ Aside0 (spec_LeastOf.l0 kq l0 x4_1 = some (r1, r2)) ∧ Aside0 (kq ≤ k) ∧ Drawn0 w w')
  case atStart => exact ⟨(0), (by first | rfl | (simp; done) | (simp [*]; done)), H', ⟨Nat.le_refl _⟩, by repeat (first | exact Drawn0.refl _ | apply Drawn0.step)⟩
  case round =>
    clear H'
    try clear c1
    obtain ⟨x4_1, rfl, HA, HK1, ⟨m1, rfl⟩⟩ := hrel
    cases gk with
    | zero => exact absurd HA.out (by simp [spec_LeastOf.l0])
    | succ k1 =>
      have H := HA.out
      clear HA
      simp only [spec_LeastOf.l0] at H
      have HC2 := Aside0.mk H
      clear H
      go_upto_region 2 with (fail)
      go_cut [14] (fun v14 wc => ∃ (kq : Nat) (x14_1 : Bool), v14 = .bool x14_1 ∧ Aside0 (spec_LeastOf.j1 kq l0 x4_1 x14_1 = some (r1, r2)) ∧ Aside0 (kq ≤ k1) ∧ Drawn0 w wc)
      case first =>
        have H := HC2.out
        clear HC2
        by_cases c3 : x4_1 < (l0.length : Int)
        · rw [if_pos c3] at H
          have c3b0 : decide (x4_1 < (l0.length : Int)) = true := decide_eq_true c3
          clear c3
          (first | rw [c3b0] | (simp only [i64_w, i32_w]; rw [c3b0]) | skip)
          replace H := Option.bind_eq_some_iff.mp H
          obtain ⟨t151, A40, H⟩ := H
          replace H : (spec_LeastOf.j1 k1 l0 x4_1 t151) = some (r1, r2) := H
          have A4 := Aside0.mk A40
          clear A40
          have H' := Aside0.mk H
          clear H
          go_wp2_with (first | (go_at_call 133; (with_reducible refine (spec_OrderOk.calls k1 _ _ l0 t151 _ ?side1 ?side2 A4.out).mono ?_); (case side1 => repeat (first | exact HR0.out | (with_reducible refine Kd.C_alloc ?_ _) | (with_reducible refine Kd.C_drewN ?_ _) | (with_reducible refine Kd.C_drew ?_))); (case side2 => exact HC0.out); rintro e w' ⟨rfl, ⟨nd, rfl⟩⟩))
          go_meet
          case rel => exact ⟨_, (t151), (by first | rfl | (simp; done) | (simp [*]; done)), H', ⟨by have := HK1.out; first | omega | exact Nat.le_refl _⟩, by repeat (first | exact Drawn0.refl _ | apply Drawn0.step)⟩
        · rw [if_neg c3] at H
          have c3b0 : decide (x4_1 < (l0.length : Int)) = false := decide_eq_false c3
          clear c3
          (first | rw [c3b0] | (simp only [i64_w, i32_w]; rw [c3b0]) | skip)
          have H' := Aside0.mk H
          clear H
          go_wp2
          go_meet
          case rel => exact ⟨_, (false), (by first | rfl | (simp; done) | (simp [*]; done)), H', ⟨by have := HK1.out; first | omega | exact Nat.le_refl _⟩, by repeat (first | exact Drawn0.refl _ | apply Drawn0.step)⟩
      case rest =>
        clear HC2
        try clear c1
        try clear p2
        try clear c3
        try clear c3b0
        obtain ⟨kq, x14_1, rfl, HA, HJ1, ⟨mc1, rfl⟩⟩ := hcut
        cases kq with
        | zero => exact absurd HA.out (by simp [spec_LeastOf.j1])
        | succ kj1 =>
          have H := HA.out
          clear HA
          simp only [spec_LeastOf.j1] at H
          by_cases c5 : x14_1 = true
          · subst c5
            have H1 : (spec_LeastOf.l1 kj1 l0 x4_1 true 0) = some (r1, r2) := by rw [if_pos rfl] at H; exact H
            clear H
            have H := H1
            clear H1
            have H' := Aside0.mk H
            clear H
            go_wp2
            go_loopg [5, 6] kj1 (fun kq v5 v6 w' => ∃ (x5_3 : Bool) (x6_3 : Int), v5 = .bool x5_3 ∧ v6 = .int .i64 x6_3 ∧ Aside0 (spec_LeastOf.l1 kq l0 x4_1 x5_3 x6_3 = some (r1, r2)) ∧ Aside0 (kq ≤ kj1) ∧ Drawn0 w w')
            case atStart => exact ⟨(true), (0), (by first | rfl | (simp; done) | (simp [*]; done)), (by first | rfl | (simp; done) | (simp [*]; done)), H', ⟨Nat.le_refl _⟩, by repeat (first | exact Drawn0.refl _ | apply Drawn0.step)⟩
            case round =>
              clear H'
              try clear c1
              try clear p2
              try clear c3
              try clear c3b0
              try clear c5
              try clear p2
              obtain ⟨x5_3, x6_3, rfl, rfl, HA, HK3, ⟨m3, rfl⟩⟩ := hrel
              cases gk with
              | zero => exact absurd HA.out (by simp [spec_LeastOf.l1])
              | succ k3 =>
                have H := HA.out
                clear HA
                simp only [spec_LeastOf.l1] at H
                by_cases c6 : x6_3 < (l0.length : Int)
                · rw [if_pos c6] at H
                  have c6b0 : decide (x6_3 < (l0.length : Int)) = true := decide_eq_true c6
                  clear c6
                  by_cases c7 : x5_3 = true
                  · subst c7
                    have H1 : (if 0 ≤ x4_1 then (if x4_1 < (l0.length : Int) then (if 0 ≤ x6_3 then (if x6_3 < ((rd_L1 l0 x4_1).length : Int) then (spec_LeastOf.l1 k3 l0 x4_1 ((rd (rd_L1 l0 x4_1) x6_3) == 1) (wrap64 (x6_3 + 1))) else (none)) else (none)) else (none)) else (none)) = some (r1, r2) := by rw [if_pos rfl] at H; exact H
                    clear H
                    have H := H1
                    clear H1
                    by_cases c8 : 0 ≤ x4_1
                    · rw [if_pos c8] at H
                      have c8b0 : decide (0 ≤ x4_1) = true := decide_eq_true c8
                      clear c8
                      by_cases c9 : x4_1 < (l0.length : Int)
                      · rw [if_pos c9] at H
                        have c9b0 : decide (x4_1 < (l0.length : Int)) = true := decide_eq_true c9
                        clear c9
                        by_cases c10 : 0 ≤ x6_3
                        · rw [if_pos c10] at H
                          have c10b0 : decide (0 ≤ x6_3) = true := decide_eq_true c10
                          clear c10
                          by_cases c11 : x6_3 < ((rd_L1 l0 x4_1).length : Int)
                          · rw [if_pos c11] at H
                            have c11b0 : decide (x6_3 < ((rd_L1 l0 x4_1).length : Int)) = true := decide_eq_true c11
                            clear c11
                            have H' := Aside0.mk H
                            clear H
                            have p152 : 0 ≤ (x4_1 : Int) := of_decide_eq_true (by first | (with_reducible assumption) | assumption)
                            have q152 : x4_1 < (l0.length : Int) := of_decide_eq_true (by first | (with_reducible assumption) | assumption)
                            obtain ⟨ad152, A152_0, c152_0, e152, hx152_0, hl152_0, hi152_0⟩ := at_L1 HR0.out x4_1 p152 q152
                            cases e152
                            have HR152_0 := Aside0.mk hi152_0
                            have HC152_0 := Aside0.mk hl152_0
                            clear hi152_0 hl152_0
                            replace p152 := eq_true p152
                            replace q152 := eq_true q152
                            have p153 : 0 ≤ (x6_3 : Int) := of_decide_eq_true (by first | (with_reducible assumption) | assumption)
                            have q153 : x6_3 < ((rd_L1 l0 x4_1).length : Int) := of_decide_eq_true (by first | (with_reducible assumption) | assumption)
                            obtain ⟨ad153, e153, hx153_0⟩ := Kd.at_int HR152_0.out x6_3 p153 q153
                            cases e153
                            replace p153 := eq_true p153
                            replace q153 := eq_true q153
                            go_wp2
                            go_roundg k3
                            case measure => have := HK1.out; have := HJ1.out; have := HK3.out; omega
                            case rel => exact ⟨(((rd (rd_L1 l0 x4_1) x6_3) == 1)), (wrap64 (x6_3 + 1)), (by first | rfl | (simp; done) | (simp [*]; done)), (by first | rfl | (simp; done) | (simp [*]; done)), H', ⟨by have := HK1.out; have := HJ1.out; have := HK3.out; omega⟩, by repeat (first | exact Drawn0.refl _ | apply Drawn0.step)⟩
                          · rw [if_neg c11] at H
                            exact absurd H (by simp)
                        · rw [if_neg c10] at H
                          exact absurd H (by simp)
                      · rw [if_neg c9] at H
                        exact absurd H (by simp)
                    · rw [if_neg c8] at H
                      exact absurd H (by simp)
                  · replace c7 := Bool.eq_false_iff.mpr c7
                    subst c7
                    have H1 : (spec_LeastOf.l1 k3 l0 x4_1 false (wrap64 (x6_3 + 1))) = some (r1, r2) := by rw [if_neg (show ¬ (false = true) by decide)] at H; exact H
                    clear H
                    have H := H1
                    clear H1
                    have H' := Aside0.mk H
                    clear H
                    go_wp2
                    go_roundg k3
                    case measure => have := HK1.out; have := HJ1.out; have := HK3.out; omega
                    case rel => exact ⟨(false), (wrap64 (x6_3 + 1)), (by first | rfl | (simp; done) | (simp [*]; done)), (by first | rfl | (simp; done) | (simp [*]; done)), H', ⟨by have := HK1.out; have := HJ1.out; have := HK3.out; omega⟩, by repeat (first | exact Drawn0.refl _ | apply Drawn0.step)⟩
                · rw [if_neg c6] at H
                  have c6b0 : decide (x6_3 < (l0.length : Int)) = false := decide_eq_false c6
                  clear c6
                  by_cases c12 : x5_3 = true
                  · subst c12
                    have H1 : (some (x4_1, true)) = some (r1, r2) := by rw [if_pos rfl] at H; exact H
                    clear H
                    have H := H1
                    clear H1
                    simp only [Option.some.injEq, Prod.mk.injEq] at H
                    obtain ⟨rfl, rfl⟩ := H
                    go_wp2
                    go_ret2
                    exact ⟨by first | rfl | (simp; done) | (simp [*]; done), by repeat (first | exact Drawn0.refl _ | apply Drawn0.step)⟩
                  · replace c12 := Bool.eq_false_iff.mpr c12
                    subst c12
                    have H1 : (spec_LeastOf.l0 k3 l0 (wrap64 (x4_1 + 1))) = some (r1, r2) := by rw [if_neg (show ¬ (false = true) by decide)] at H; exact H
                    clear H
                    have H := H1
                    clear H1
                    have H' := Aside0.mk H
                    clear H
                    go_wp2
                    go_roundg k3
                    case measure => have := HK1.out; have := HJ1.out; have := HK3.out; omega
                    case rel => exact ⟨(wrap64 (x4_1 + 1)), (by first | rfl | (simp; done) | (simp [*]; done)), H', ⟨by have := HK1.out; have := HJ1.out; have := HK3.out; omega⟩, by repeat (first | exact Drawn0.refl _ | apply Drawn0.step)⟩
          · replace c5 := Bool.eq_false_iff.mpr c5
            subst c5
            have H1 : (some ((-1), false)) = some (r1, r2) := by rw [if_neg (show ¬ (false = true) by decide)] at H; exact H
            clear H
            have H := H1
            clear H1
            simp only [Option.some.injEq, Prod.mk.injEq] at H
            obtain ⟨rfl, rfl⟩ := H
            go_wp2
            go_ret2
            exact ⟨by first | rfl | (simp; done) | (simp [*]; done), by repeat (first | exact Drawn0.refl _ | apply Drawn0.step)⟩
end Go.Proofs.Ythideghgdmokkaa.Print
end
