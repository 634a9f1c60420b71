/- Part 4 of what this is proved by: The program's HighOf returns what the reference's returns, for all arguments. No condition. -/
import Derived.Test.YtjoadckkdophnaaKHigh3
import Derived.Below
import Derived.Deep.Draws
import Derived.Deep.AppendLies
import Derived.Maps.AppendAt
import Derived.OwnWalk
import Derived.Laws.BytesArg
import Derived.Laws.MakeOwn
import Derived.Laws.OwnMore
import Derived.Deep.OwnRows
import Derived.Tactics
import Derived.Lib.ConvBytes
import Derived.Laws.Slices
import Derived.WalkKit
import Derived.KernelRfl
import Derived.RowKit3
import Derived.Deep.LoopGhost
import Derived.Deep.QuietTactic
import Derived.BigQuiet
import Derived.WideLaws
import Derived.Deep.DeepCutAuto
import Derived.Deep.CutBlock
import Derived.Deep.RegionHeld3
import Derived.Laws.Rows
import Derived.Lib.AppendStr
import Derived.ArgAppend
import Derived.Laws.IdiomCopy
import Derived.RowKit
import Derived.OrdersHeld
import Derived.Laws.BitsLemmas
import Derived.Test.YtjoadckkdophnaaProg
import Derived.Deep.Matrix
import Derived.Lib.SmallJoins
section
namespace Go.Proofs.Ytjoadckkdophnaa.Print
open Go.RowKit Go.Proofs.YtjoadckkdophnaaW.PrintWords Go.Proofs.YtjoadckkdophnaaW.PrintLast Go.Proofs.YtjoadckkdophnaaW.PrintMore
set_option linter.unusedVariables false
set_option linter.unusedSimpArgs false
open Oml Go.ChangeShapes Go.WideShapes Go.ChangeAt Go.Deep Go.Joins
theorem ints_in {H : Type} {enc : TypeId × Value → H} {W : World} {base fuel : Nat} {held : Bool} {v : Value} {x : DataW H × List MemPlace} (h : DataW.trod enc Try.prog W base (fun _ => true) held fuel 24 [v] = some x) :
    ∃ A c N, v = .slice A N.length c ∧ N.length ≤ c ∧ N.length ≤ 9223372036854775807 ∧ Kd.C (Kd.int .i64) W A N.length N := by
  rcases open_ints Try.underlying24 Try.underlying3 (by kernel_rfl) h with ⟨hcs, _⟩ | ⟨a, l, c, zs, hcs, _, hl, hm, hz, _, hcell, _⟩
  · simp at hcs
    exact ⟨none, 0, [], hcs, Nat.le_refl _, Nat.zero_le _, rfl, Nat.zero_le _, fun h => absurd h (Nat.not_lt_zero _)⟩
  · simp at hcs hz
    have hl' : (zs.take l).length = l := by rw [List.length_take]; omega
    have hmax : c ≤ 9223372036854775807 := hm
    refine ⟨some a, c, zs.take l, by rw [hl']; exact hcs, by omega, by omega, by rw [hl'], by omega, fun _ => ⟨a, rfl, fun j p hp => ?_⟩⟩
    have hj : j < l := by
      have := (List.getElem?_eq_some_iff.1 hp).1
      rw [hl'] at this; exact this
    refine ⟨[.int .i64 p], rfl, rfl, fun i u hu => ?_⟩
    rcases i with _ | i
    · have hu' : Value.int .i64 p = u := by simpa using hu
      have hc := hcell j (by omega)
      have hp' : zs.getD j 0 = p := by
        rw [List.getElem?_take, if_pos hj] at hp
        rw [List.getD_eq_getElem?_getD, hp]; rfl
      show W.cell? (a.add (j * 1 + 0)) = some u
      rw [Nat.mul_one, Nat.add_zero, hc, hp', hu']
    · simp at hu
theorem rows_in {H : Type} {enc : TypeId × Value → H} {W : World} {base fuel : Nat} {held : Bool} {v : Value} {x : DataW H × List MemPlace} (h : DataW.trod enc Try.prog W base (fun _ => true) held fuel 23 [v] = some x) :
    ∃ A c U, v = .slice A U.length c ∧ U.length ≤ c ∧ U.length ≤ 9223372036854775807 ∧ (∀ r ∈ U, r.length ≤ 9223372036854775807) ∧ Kd.C (Kd.slice 3 (Kd.int .i64)) W A U.length U := by
  rcases open_int_rows Try.underlying23 Try.underlying24 Try.underlying3 (by kernel_rfl) (by kernel_rfl) h with ⟨hcs, _⟩ | ⟨a, l, c, A, L, C, Z, hcs, _, hl, hm, _, hr⟩
  · simp at hcs
    exact ⟨none, 0, [], hcs, Nat.le_refl _, Nat.zero_le _, by simp, rfl, Nat.zero_le _, fun h => absurd h (Nat.not_lt_zero _)⟩
  · simp at hcs
    have hmax : c ≤ 9223372036854775807 := hm
    have hlr : ∀ r, r < c → ((Z r).take (L r)).length = L r := fun r h => by
      obtain ⟨_, h1, _, h2, _⟩ := hr r h
      rw [List.length_take]; omega
    have hU : ((List.range l).map fun r => (Z r).take (L r)).length = l := by simp
    refine ⟨some a, c, (List.range l).map fun r => (Z r).take (L r), by rw [hU]; exact hcs, by omega, by omega, fun r hr' => ?_, by rw [hU], by omega, fun _ => ⟨a, rfl, fun j p hp => ?_⟩⟩
    · obtain ⟨i, hi, rfl⟩ := List.mem_map.1 hr'
      have hi' : i < c := by have := List.mem_range.1 hi; omega
      rw [hlr i hi']
      have h1 : L i ≤ C i := (hr i hi').2.1
      have h2 : C i ≤ 9223372036854775807 := (hr i hi').2.2.1
      omega
    · have hj : j < l := by
        have := (List.getElem?_eq_some_iff.1 hp).1
        rw [hU] at this; exact this
      have hp' : p = (Z j).take (L j) := by
        rw [List.getElem?_map, List.getElem?_range hj] at hp
        simpa using hp.symm
      obtain ⟨hcell, h1, h2, h3, h4, h5, h6⟩ := hr j (by omega)
      have h2' : C j ≤ 9223372036854775807 := h2
      have hlj := hlr j (by omega)
      refine ⟨[.slice (A j) p.length (C j)], rfl, ⟨A j, C j, rfl, by rw [hp', hlj]; exact h1, rfl, by rw [hp', hlj]; omega, fun hpos => ?_⟩, fun i u hu => ?_⟩
      · rw [hp', hlj] at hpos
        cases hA : A j with
        | none => have := h5 hA; omega
        | some a' =>
          refine ⟨a', rfl, fun i q hq => ?_⟩
          have hi : i < L j := by
            have := (List.getElem?_eq_some_iff.1 hq).1
            rw [hp', hlj] at this; exact this
          refine ⟨[.int .i64 q], rfl, rfl, fun i' u hu => ?_⟩
          rcases i' with _ | i'
          · have hu' : Value.int .i64 q = u := by simpa using hu
            have hc := (h6 a' hA).2 i (by omega)
            have hq' : (Z j).getD i 0 = q := by
              rw [hp', List.getElem?_take, if_pos hi] at hq
              rw [List.getD_eq_getElem?_getD, hq]; rfl
            show W.cell? (a'.add (i * 1 + 0)) = some u
            rw [Nat.mul_one, Nat.add_zero, hc, hq', hu']
          · simp at hu
      · rcases i with _ | i
        · have hu' : Value.slice (A j) p.length (C j) = u := by simpa using hu
          show W.cell? (a.add (j * 1 + 0)) = some u
          rw [Nat.mul_one, Nat.add_zero, hcell, ← hu', hp', hlj]
        · simp at hu
theorem logic_in' {H : Type} {enc : TypeId × Value → H} {W : World} {base : Nat} {held : Bool} {r : Reach} {b0 : Nat} {v : Value} {d : DataW H} {ps : List MemPlace} (hv : Value.okWide Try.prog W r b0 26 v)
    (h : DataW.Trod enc Try.prog W base (fun _ => true) held 26 v d ps) :
    ∃ A0 c0 U A1 c1 N, v = .agg #[.slice A0 U.length c0, .slice A1 N.length c1] ∧ U.length ≤ c0 ∧ N.length ≤ c1 ∧ FitL U N ∧ Kd.C (Kd.slice 3 (Kd.int .i64)) W A0 U.length U ∧ Kd.C (Kd.int .i64) W A1 N.length N := by
  obtain ⟨v0, v1, y0, y1, n, rfl, rfl, rfl, h0, h1⟩ := open_agg2 Try.underlying26 (by kernel_rfl) (by kernel_rfl) hv h
  obtain ⟨A0, c0, U, rfl, k0, k1, k2, k3⟩ := rows_in h0
  obtain ⟨A1, c1, N, rfl, l0, l1, l2⟩ := ints_in h1
  exact ⟨A0, c0, U, A1, c1, N, rfl, k0, l0, ⟨k1, k2, l1⟩, k3, l2⟩
end Go.Proofs.Ytjoadckkdophnaa.Print
end
section
namespace Go.Proofs.Ytjoadckkdophnaa.Print
open Go.RowKit Go.Proofs.YtjoadckkdophnaaW.PrintWords Go.Proofs.YtjoadckkdophnaaW.PrintLast Go.Proofs.YtjoadckkdophnaaW.PrintMore
set_option linter.unusedVariables false
set_option linter.unusedSimpArgs false
open Oml
def In (U : List (List Int)) (a : Int) : Prop := 0 ≤ a ∧ a < (U.length : Int)
def inR (n : Nat) (a : Int) : Bool := decide (0 ≤ a) && decide (a < (n : Int))
theorem inR_iff {U : List (List Int)} {a : Int} : inR U.length a = true ↔ In U a := by simp [inR, In]
def andI (U : List (List Int)) (a b : Int) : Int := mI U a.toNat b.toNat
def orI (U : List (List Int)) (a b : Int) : Int := jI U a.toNat b.toNat
def notI (N : List Int) (a : Int) : Int := at1 N a.toNat
def leI (U : List (List Int)) (a b : Int) : Bool := leB U a.toNat b.toNat
def noI (U : List (List Int)) : Int := optI (leastO U)
def yesI (U : List (List Int)) (N : List Int) : Int := notI N (noI U)
section
variable {U : List (List Int)} {N : List Int} (L : Logic U N)
include L
theorem _root_.Oml.Logic.in_not {a : Int} (ha : In U a) : In U (notI N a) := L.ran a.toNat (by have := ha.1; have := ha.2; omega)
theorem _root_.Oml.Logic.le_val {a b : Int} (ha : In U a) (hb : In U b) : at2 U a.toNat b.toNat = if leI U a b = true then 1 else 0 :=
  L.toOrder.val (by have := ha.1; have := ha.2; omega) (by have := hb.1; have := hb.2; omega)
end
structure Adr where
  aU : Addr
  aA : Addr
  aO : Addr
  aN : Addr
  cU : Nat
  cA : Nat
  cO : Nat
  cN : Nat
  rU : Nat → Addr
  rA : Nat → Addr
  rO : Nat → Addr
  qU : Nat → Nat
  qA : Nat → Nat
  qO : Nat → Nat
structure View (W : World) (g : Nat) (U : List (List Int)) (N : List Int) (v : Adr) : Prop where
  blk : W.heap[g]? = some (.cells #[.slice (some v.aU) U.length v.cU, .slice (some v.aA) U.length v.cA, .slice (some v.aO) U.length v.cO, .slice (some v.aN) U.length v.cN, .int .i64 (noI U), .int .i64 (yesI U N)] 57 (0, 0))
  len : N.length = U.length
  u : ∀ a, In U a → W.cell? (v.aU.add a.toNat) = some (.slice (some (v.rU a.toNat)) U.length (v.qU a.toNat))
  u2 : ∀ a b, In U a → In U b → W.cell? ((v.rU a.toNat).add b.toNat) = some (.int .i64 (at2 U a.toNat b.toNat))
  m : ∀ a, In U a → W.cell? (v.aA.add a.toNat) = some (.slice (some (v.rA a.toNat)) U.length (v.qA a.toNat))
  m2 : ∀ a b, In U a → In U b → W.cell? ((v.rA a.toNat).add b.toNat) = some (.int .i64 (andI U a b))
  j : ∀ a, In U a → W.cell? (v.aO.add a.toNat) = some (.slice (some (v.rO a.toNat)) U.length (v.qO a.toNat))
  j2 : ∀ a b, In U a → In U b → W.cell? ((v.rO a.toNat).add b.toNat) = some (.int .i64 (orI U a b))
  n : ∀ a, In U a → W.cell? (v.aN.add a.toNat) = some (.int .i64 (notI N a))
  capU : U.length ≤ v.cU
  capR : ∀ a, In U a → U.length ≤ v.qU a.toNat
namespace View
section
variable {W W1 : World} {g : Nat} {U : List (List Int)} {N : List Int} {v : Adr} (h : View W g U N v)
include h
theorem below (hb : Below W.heap.size W W1) : View W1 g U N v where
  blk := blk_below h.blk hb
  len := h.len
  u := fun a ha => cell_up (h.u a ha) hb rfl
  u2 := fun a b ha hb' => cell_up (h.u2 a b ha hb') hb rfl
  m := fun a ha => cell_up (h.m a ha) hb rfl
  m2 := fun a b ha hb' => cell_up (h.m2 a b ha hb') hb rfl
  j := fun a ha => cell_up (h.j a ha) hb rfl
  j2 := fun a b ha hb' => cell_up (h.j2 a b ha hb') hb rfl
  n := fun a ha => cell_up (h.n a ha) hb rfl
  capU := h.capU
  capR := h.capR
theorem f0 : W.cell? ⟨g, 0, none⟩ = some (.slice (some v.aU) U.length v.cU) := (blk_cell h.blk 0).trans rfl
theorem f1 : W.cell? ⟨g, 1, none⟩ = some (.slice (some v.aA) U.length v.cA) := (blk_cell h.blk 1).trans rfl
theorem f2 : W.cell? ⟨g, 2, none⟩ = some (.slice (some v.aO) U.length v.cO) := (blk_cell h.blk 2).trans rfl
theorem f3 : W.cell? ⟨g, 3, none⟩ = some (.slice (some v.aN) U.length v.cN) := (blk_cell h.blk 3).trans rfl
theorem drewN (n : Nat) : View (W.drewN n) g U N v := h.below (pw_below_drewN (Below.refl _ _) n)
theorem alloc (o : Obj) : View (W.alloc o) g U N v := h.below (below_alloc (Below.refl _ _) o)
theorem rowsU (L : Logic U N) : Kd.C (Kd.slice 3 (Kd.int .i64)) W (some v.aU) U.length U := by
  have hs := L.small
  refine ⟨rfl, by omega, fun _ => ⟨v.aU, rfl, fun j p hp => ?_⟩⟩
  have hj : j < U.length := (List.getElem?_eq_some_iff.1 hp).1
  have hin : In U (j : Int) := ⟨by omega, by omega⟩
  have hpl : p.length = U.length := by
    have := L.row j hj
    rw [List.getD_eq_getElem?_getD, hp] at this
    exact this
  refine ⟨[.slice (some (v.rU j)) p.length (v.qU j)], rfl, ⟨some (v.rU j), v.qU j, rfl, by rw [hpl]; have := h.capR _ hin; simpa using this, ?_⟩, fun i u hu => ?_⟩
  · refine ⟨rfl, by omega, fun _ => ⟨v.rU j, rfl, fun i q hq => ?_⟩⟩
    have hi : i < p.length := (List.getElem?_eq_some_iff.1 hq).1
    refine ⟨[.int .i64 q], rfl, rfl, fun z u hu => ?_⟩
    have hz : z = 0 := by
      rcases z with _ | z
      · rfl
      · simp at hu
    subst hz
    have hu' : Value.int .i64 q = u := by simpa using hu
    subst hu'
    have := h.u2 j i hin ⟨by omega, by omega⟩
    simp only [Int.toNat_natCast] at this
    show W.cell? ((v.rU j).add (i * 1 + 0)) = _
    rw [Nat.mul_one, Nat.add_zero, this]
    simp [at2, List.getD_eq_getElem?_getD, hp, hq]
  · have hz : i = 0 := by
      rcases i with _ | z
      · rfl
      · simp at hu
    subst hz
    have hu' : Value.slice (some (v.rU j)) p.length (v.qU j) = u := by simpa using hu
    subst hu'
    have := h.u j hin
    simp only [Int.toNat_natCast] at this
    show W.cell? (v.aU.add (j * 1 + 0)) = _
    rw [Nat.mul_one, Nat.add_zero, this, hpl]
end
end View
theorem rows_adr {W : World} {A : Option Addr} {n m : Nat} {xs : List (List Int)} (h : Kd.C (Kd.slice 3 (Kd.int .i64)) W A m xs) (hm : m = n) (hn : 0 < n) (hr : ∀ a, a < n → (xs.getD a []).length = n) :
    ∃ (ad : Addr) (r : Nat → Addr) (q : Nat → Nat), A = some ad ∧ (∀ a, a < n → W.cell? (ad.add a) = some (.slice (some (r a)) n (q a))) ∧ (∀ a b, a < n → b < n → W.cell? ((r a).add b) = some (.int .i64 (at2 xs a b))) ∧ ∀ a, a < n → n ≤ q a := by
  subst hm
  obtain ⟨ad, _, _, e, _⟩ := mat_cell h hr 0 0 (by omega) (by omega) (by omega) (by omega)
  have key : ∀ a : Nat, ∃ (r : Addr) (q : Nat), a < m → W.cell? (ad.add a) = some (.slice (some r) m q) ∧ (∀ b, b < m → W.cell? (r.add b) = some (.int .i64 (at2 xs a b))) ∧ m ≤ q := by
    intro a
    by_cases ha : a < m
    · obtain ⟨ad1, Ar, cr, e1, hc, hl, hk⟩ := rows_cell h a (by omega) (by omega)
      rw [e] at e1
      injection e1 with e1
      subst e1
      simp only [Int.toNat_natCast] at hc hl hk
      rw [hr a ha] at hc hl hk
      obtain ⟨r, e2, _⟩ := ints_cell hk 0 (by omega) (by omega)
      subst e2
      refine ⟨r, cr, fun _ => ⟨hc, fun b hb => ?_, hl⟩⟩
      obtain ⟨r', e3, hc3⟩ := ints_cell hk b (by omega) (by omega)
      cases e3
      simpa [at2, at1] using hc3
    · exact ⟨ad, 0, fun h => absurd h ha⟩
  refine ⟨ad, fun a => Classical.choose (key a), fun a => Classical.choose (Classical.choose_spec (key a)), e, fun a ha => ?_, fun a b ha hb => ?_, fun a ha => ?_⟩
  · exact (Classical.choose_spec (Classical.choose_spec (key a)) ha).1
  · exact (Classical.choose_spec (Classical.choose_spec (key a)) ha).2.1 b hb
  · exact (Classical.choose_spec (Classical.choose_spec (key a)) ha).2.2
theorem view_of {W : World} {g : Nat} {U : List (List Int)} {N : List Int} (L : Logic U N) (h : AlgOf W g U N) : ∃ v, View W g U N v := by
  obtain ⟨A0, c0, A1, c1, A2, c2, A3, c3, h1, hc, k0, k1, k2, k3⟩ := h
  have hn : 0 < U.length := L.pos
  rw [tabI_length] at h1 hc k1 k2
  rw [tabI_length, L.len] at h1
  rw [tabI_length, L.len] at hc
  rw [L.len] at k3
  obtain ⟨aU, rU, qU, eU, u1, u2, u3⟩ := rows_adr k0 rfl hn L.row
  obtain ⟨aA, rA, qA, eA, m1, m2, m3⟩ := rows_adr k1 rfl hn (tabI_row _ _)
  obtain ⟨aO, rO, qO, eO, j1, j2, j3⟩ := rows_adr k2 rfl hn (tabI_row _ _)
  obtain ⟨aN, eN, _⟩ := ints_cell k3 0 (by omega) (by omega)
  subst eU eA eO eN
  have nat : ∀ a, In U a → a.toNat < U.length := fun a ha => by have := ha.1; have := ha.2; omega
  refine ⟨⟨aU, aA, aO, aN, c0, c1, c2, c3, rU, rA, rO, qU, qA, qO⟩, { blk := h1, len := L.len, u := fun a ha => u1 _ (nat a ha), u2 := fun a b ha hb => u2 _ _ (nat a ha) (nat b hb), m := fun a ha => m1 _ (nat a ha), m2 := fun a b ha hb => ?_, j := fun a ha => j1 _ (nat a ha), j2 := fun a b ha hb => ?_, n := fun a ha => ?_, capU := hc.1, capR := fun a ha => u3 _ (nat a ha) }⟩
  · rw [m2 _ _ (nat a ha) (nat b hb), tabI_at _ _ _ _ (nat a ha) (nat b hb)]; rfl
  · rw [j2 _ _ (nat a ha) (nat b hb), tabI_at _ _ _ _ (nat a ha) (nat b hb)]; rfl
  · obtain ⟨ad, e, hcell⟩ := ints_cell k3 a ha.1 ha.2
    cases e
    exact hcell
theorem told_y (k : Nat) (A0 : Option Addr) (c0 : Nat) (U : List (List Int)) (A1 : Option Addr) (c1 : Nat) (N : List Int) (w : World)
    (hr0 : Kd.C (Kd.slice 3 (Kd.int .i64)) w A0 U.length U) (hc0 : U.length ≤ c0) (hr1 : Kd.C (Kd.int .i64) w A1 N.length N) (hc1 : N.length ≤ c1) (hF : ToldFacts k U) (hL : logicB U N = true) :
    Calls Try.prog 55 #[.agg #[.slice A0 U.length c0, .slice A1 N.length c1]] w fun e w' => ∃ g v, e = .returned (.pointer (some ⟨g, 0, none⟩)) ∧ View w' g U N v ∧ w.heap.size ≤ g ∧ Below w.heap.size w w' := by
  refine (told_calls k A0 c0 U A1 c1 N w hr0 hc0 hr1 hc1 hF).mono fun e w' h => ?_
  obtain ⟨hb, h | h⟩ := h
  · obtain ⟨_, g, he, hg, ha⟩ := h
    obtain ⟨v, hv⟩ := view_of (logicB_iff.1 hL) ha
    exact ⟨g, v, he, hv, hg, hb⟩
  · rw [hL] at h; exact absurd h.1 (by simp)
theorem told_n (k : Nat) (A0 : Option Addr) (c0 : Nat) (U : List (List Int)) (A1 : Option Addr) (c1 : Nat) (N : List Int) (w : World)
    (hr0 : Kd.C (Kd.slice 3 (Kd.int .i64)) w A0 U.length U) (hc0 : U.length ≤ c0) (hr1 : Kd.C (Kd.int .i64) w A1 N.length N) (hc1 : N.length ≤ c1) (hF : ToldFacts k U) (hL : logicB U N = false) :
    Calls Try.prog 55 #[.agg #[.slice A0 U.length c0, .slice A1 N.length c1]] w fun e w' => e = .returned (.pointer none) ∧ Below w.heap.size w w' := by
  refine (told_calls k A0 c0 U A1 c1 N w hr0 hc0 hr1 hc1 hF).mono fun e w' h => ?_
  obtain ⟨hb, h | h⟩ := h
  · rw [hL] at h; exact absurd h.1 (by simp)
  · exact ⟨h.2, hb⟩
end Go.Proofs.Ytjoadckkdophnaa.Print
end
section
namespace Go.Proofs.Ytjoadckkdophnaa.Print
open Go.RowKit Go.Proofs.YtjoadckkdophnaaW.PrintWords Go.Proofs.YtjoadckkdophnaaW.PrintLast Go.Proofs.YtjoadckkdophnaaW.PrintMore
set_option linter.unusedVariables false
set_option linter.unusedSimpArgs false
open Oml
theorem lit_C (W : World) (e : TypeId) (xs : List Int) (hm : xs.length ≤ 9223372036854775807) :
    Kd.C (Kd.int .i64) (W.alloc (.cells (nums .i64 xs).toArray e)) (some ⟨W.heap.size, 0, none⟩) xs.length xs :=
  (Kd.R_reads' (Kd.R_of_own (ok := fun _ => True) (own_lit W W.heap.size e .i64 xs (Nat.le_refl _) hm) (fun _ _ => trivial))).2.2
theorem isAnswer_eq (U : List (List Int)) (a : Int) : impl_isAnswer.f U a = some (inR U.length a) := by
  unfold impl_isAnswer.f inR
  by_cases h : a ≥ 0
  · rw [if_pos h]; simp [h]
  · rw [if_neg h]; simp; omega
theorem knows_nil (A : Option Addr) (n c : Nat) (w : World) :
    Calls Try.prog 56 #[.pointer none, .slice A n c] w fun e w' => e = .returned (.bool false) ∧ Below w.heap.size w w' := by
  go_enter Try.func56, Try.ntmps56
  go_wp2_with fail
  go_ret
  exact ⟨rfl, Below.refl _ _⟩
set_option maxHeartbeats 1000000 in
theorem knows_calls (g : Nat) (U : List (List Int)) (N : List Int) (v : Adr) (w : World) (L : Logic U N) (hV : View w g U N v) (A : Option Addr) (c : Nat) (xs : List Int) (n : Nat) (hn : xs.length = n)
    (hr : Kd.C (Kd.int .i64) w A n xs) (hs : n ≤ 100) (b : Bool) (hb : xs.all (inR U.length) = b) :
    Calls Try.prog 56 #[.pointer (some ⟨g, 0, none⟩), .slice A n c] w fun e w' => e = .returned (.bool b) ∧ Below w.heap.size w w' := by
  have hu70 := Try.underlying57
  have HV := Aside0.mk hV
  have HR := Aside0.mk hr
  have HL := Aside0.mk L
  have HN := Aside0.mk hn
  have HBB := Aside0.mk hb
  clear hV hr L hn hb
  go_enter Try.func56, Try.ntmps56
  go_wp2_with fail
  go_loopg [11] (n + 1) (fun kq v11 W => ∃ i m : Nat, v11 = .int .i64 i ∧ Aside0 (i + kq = n + 1) ∧ Aside0 (i ≤ n) ∧ Aside0 (∀ j, j < i → inR U.length (at1 xs j) = true) ∧ W = w.drewN m)
  case atStart => exact ⟨0, 0, rfl, ⟨by omega⟩, ⟨by omega⟩, ⟨fun j hj => absurd hj (by omega)⟩, rfl⟩
  case round =>
    obtain ⟨i, m, rfl, HK, HK2, HS, rfl⟩ := hrel
    cases gk with
    | zero => exact absurd HK.out (by have := HK2.out; omega)
    | succ kn =>
    by_cases hlt : i < n
    · have hlt' : decide (i < n) = true := decide_eq_true hlt
      have HLT := Aside0.mk hlt
      obtain ⟨ad, e, hx⟩ := ints_cell HR.out i (by omega) (by omega)
      subst e
      simp only [Int.toNat_natCast] at hx
      have p1 : (i < n) = True := eq_true hlt
      have h0 := HV.out.f0
      have HUC := Aside0.mk (HV.out.rowsU HL.out)
      clear hlt
      cases hi : inR U.length (at1 xs i) with
      | true =>
        have HI := Aside0.mk hi
        have HA := Aside0.mk (show impl_isAnswer.f U (at1 xs i) = some true by rw [isAnswer_eq, hi])
        clear hi
        go_wp2_with (go_at_call 82; (with_reducible refine (impl_isAnswer.calls _ _ U (at1 xs i) true _ ?s1 ?s2 HA.out).mono ?_); (case s1 => repeat (first | exact HUC.out | (refine Kd.C_drewN ?_ _) | (refine Kd.C_drew ?_))); (case s2 => exact HV.out.capU); rintro e w' ⟨rfl, ⟨nd, rfl⟩⟩)
        go_roundg kn
        case measure => omega
        case rel => exact ⟨i + 1, _, by first | go_num | (rw [wrap_small (by omega) (by have := HLT.out; omega)]; go_num), ⟨by have := HK.out; omega⟩, ⟨by have := HLT.out; omega⟩, ⟨fun j hj => by
          rcases Nat.lt_or_ge j i with h | h
          · exact HS.out j h
          · obtain rfl : j = i := by omega
            exact HI.out⟩, rfl⟩
      | false =>
        have HI := Aside0.mk hi
        have HA := Aside0.mk (show impl_isAnswer.f U (at1 xs i) = some false by rw [isAnswer_eq, hi])
        clear hi
        have hbf : b = false := by
          rw [← HBB.out, Bool.eq_false_iff]
          intro h
          rw [List.all_eq_true] at h
          have hin : i < xs.length := by have := HN.out; have := HLT.out; omega
          have := h (xs[i]'hin) (List.getElem_mem _)
          have h2 := HI.out
          rw [show at1 xs i = xs[i]'hin by simp [at1, List.getD_eq_getElem?_getD, List.getElem?_eq_getElem hin], this] at h2
          exact absurd h2 (by simp)
        subst hbf
        go_wp2_with (go_at_call 82; (with_reducible refine (impl_isAnswer.calls _ _ U (at1 xs i) false _ ?s1 ?s2 HA.out).mono ?_); (case s1 => repeat (first | exact HUC.out | (refine Kd.C_drewN ?_ _) | (refine Kd.C_drew ?_))); (case s2 => exact HV.out.capU); rintro e w' ⟨rfl, ⟨nd, rfl⟩⟩)
        go_ret
        exact ⟨rfl, by repeat (first | exact Below.refl _ _ | apply pw_below_drewN | apply below_drew1)⟩
    · have hlt' : decide (i < n) = false := decide_eq_false hlt
      obtain rfl : i = n := by have := HK2.out; omega
      have hbt : b = true := by
        rw [← HBB.out, List.all_eq_true]
        intro x hx
        obtain ⟨j, hj, rfl⟩ := List.mem_iff_getElem.1 hx
        have := HS.out j (by have := HN.out; omega)
        rwa [show at1 xs j = xs[j]'hj by simp [at1, List.getD_eq_getElem?_getD, List.getElem?_eq_getElem hj]] at this
      subst hbt
      clear hlt
      go_wp2_with fail
      go_ret
      exact ⟨rfl, by repeat (first | exact Below.refl _ _ | apply pw_below_drewN | apply below_drew1)⟩
end Go.Proofs.Ytjoadckkdophnaa.Print
end
section
namespace Go.Proofs.Ytjoadckkdophnaa.Print
open Go.RowKit Go.Proofs.YtjoadckkdophnaaW.PrintWords Go.Proofs.YtjoadckkdophnaaW.PrintLast Go.Proofs.YtjoadckkdophnaaW.PrintMore
set_option linter.unusedVariables false
set_option linter.unusedSimpArgs false
attribute [local go_sem] max2_int max_two
open Oml
def hiP (U : List (List Int)) (f : Nat → Nat) (a : Nat) : Nat → Nat
  | 0 => 0
  | i + 1 => if i ≠ a ∧ leB U i a = true then (if hiP U f a i < f i + 1 then f i + 1 else hiP U f a i) else hiP U f a i
def hiF (U : List (List Int)) : Nat → Nat → Nat
  | 0, _ => 0
  | k + 1, a => hiP U (hiF U k) a U.length
theorem hiP_le {U : List (List Int)} {f : Nat → Nat} {a m : Nat} (h : ∀ b, f b ≤ m) : ∀ i, hiP U f a i ≤ m + 1
  | 0 => by unfold hiP; omega
  | i + 1 => by
    have := hiP_le h (U := U) (a := a) i
    have := h i
    unfold hiP
    split
    · split <;> omega
    · assumption
theorem hiF_le (U : List (List Int)) : ∀ k a, hiF U k a ≤ k
  | 0, _ => Nat.le_refl _
  | k + 1, a => hiP_le (fun b => hiF_le U k b) _
theorem hiP_none {U : List (List Int)} {f : Nat → Nat} {a : Nat} : ∀ i, (∀ b, b < i → b ≠ a → leB U b a = false) → hiP U f a i = 0
  | 0, _ => rfl
  | i + 1, h => by
    unfold hiP
    rw [if_neg (fun c => by rw [h i (by omega) c.1] at c; exact absurd c.2 (by simp))]
    exact hiP_none i (fun b hb => h b (by omega))
def Deep (U : List (List Int)) : Nat → Nat → Prop
  | 0, a => ∀ b, b < U.length → b ≠ a → leB U b a = false
  | k + 1, a => ∀ b, b < U.length → b ≠ a → leB U b a = true → Deep U k b
set_option maxHeartbeats 1000000 in
set_option maxRecDepth 100000 in
theorem high_step (g : Nat) (U : List (List Int)) (N : List Int) (v : Adr) (w : World) (L : Logic U N) (hV : View w g U N v) (a : Nat) (ha : a < U.length) (f : Nat → Nat) (hf : ∀ b, f b ≤ 100)
    (ih : ∀ b, b < U.length → b ≠ a → leB U b a = true → ∀ w', View w' g U N v → Calls Try.prog 66 #[.pointer (some ⟨g, 0, none⟩), .int .i64 b] w' fun e w'' => e = .returned (.int .i64 (f b)) ∧ Below w'.heap.size w' w'') :
    Calls Try.prog 66 #[.pointer (some ⟨g, 0, none⟩), .int .i64 a] w fun e w' => e = .returned (.int .i64 (hiP U f a U.length)) ∧ Below w.heap.size w w' := by
  have hu70 := Try.underlying57
  have HV := Aside0.mk hV
  have HL := Aside0.mk L
  have HF := Aside0.mk hf
  have IH := Aside0.mk ih
  have HA := Aside0.mk ha
  have hf0 := hV.f0
  have HSM := Aside0.mk L.small
  clear hV L hf ih ha
  go_enter Try.func66, Try.ntmps66
  go_wp2_with fail
  go_loopg [5, 12] (U.length + 1) (fun kq v5 v12 W => ∃ i : Nat, v12 = .int .i64 i ∧ v5 = .int .i64 (hiP U f a i) ∧ Aside0 (i + kq = U.length + 1) ∧ Aside0 (i ≤ U.length) ∧ Aside0 (Below w.heap.size w W))
  case atStart => exact ⟨0, rfl, rfl, ⟨by omega⟩, ⟨by omega⟩, ⟨by repeat (first | exact Below.refl _ _ | apply below_alloc | apply pw_below_drewN | apply below_drew1)⟩⟩
  case round =>
    clear hf0
    obtain ⟨i, rfl, rfl, HK, HK2, HB⟩ := hrel
    have HVr := Aside0.mk (HV.out.below HB.out)
    have hf0 := HVr.out.f0
    cases gk with
    | zero => exact absurd HK.out (by have := HK2.out; omega)
    | succ kn =>
    by_cases hlt : i < U.length
    · have hlt' : decide (i < U.length) = true := decide_eq_true hlt
      have HLT := Aside0.mk hlt
      have Ii := Aside0.mk (show In U (i : Int) from ⟨by omega, by have := HLT.out; omega⟩)
      have Ia := Aside0.mk (show In U (a : Int) from ⟨by omega, by have := HA.out; omega⟩)
      have k1 := HVr.out.u i Ii.out
      have k2 := HVr.out.u2 i a Ii.out Ia.out
      have v1 := HL.out.le_val Ii.out Ia.out
      simp only [Int.toNat_natCast] at k1 k2 v1
      rw [v1] at k2
      have ba : (a < U.length) = True := eq_true HA.out
      have bi : (i < U.length) = True := eq_true HLT.out
      clear v1 hlt
      by_cases hia : i = a
      · have ne : ((i : Int) != (a : Int)) = false := by simp [hia]
        have ne2 : (i != a) = false := by simp [hia]
        have HP := Aside0.mk (show hiP U f a (i + 1) = hiP U f a i by rw [hiP]; exact if_neg (fun c => c.1 hia))
        clear hia k2
        go_wp2_with fail
        go_roundg kn
        case measure => omega
        case rel => exact ⟨i + 1, by first | go_num | (rw [wrap_small (by omega) (by have := HLT.out; have := HSM.out; omega)]; go_num), by rw [HP.out], ⟨by have := HK.out; omega⟩, ⟨by have := HLT.out; omega⟩, ⟨by repeat (first | exact HB.out | apply below_alloc | apply pw_below_drewN | apply below_drew1)⟩⟩
      · have ne : ((i : Int) != (a : Int)) = true := by rw [bne_iff_ne]; omega
        have ne2 : (i != a) = true := by rw [bne_iff_ne]; exact hia
        have HNE := Aside0.mk hia
        clear hia
        cases hle : leI U i a with
        | false =>
          have HP := Aside0.mk (show hiP U f a (i + 1) = hiP U f a i by rw [hiP]; exact if_neg (fun c => by have h2 := c.2; have h3 := hle; simp only [leI, Int.toNat_natCast] at h3; rw [h3] at h2; exact absurd h2 (by simp)))
          rw [hle] at k2
          clear hle
          go_wp2_with fail
          go_roundg kn
          case measure => omega
          case rel => exact ⟨i + 1, by first | go_num | (rw [wrap_small (by omega) (by have := HLT.out; have := HSM.out; omega)]; go_num), by rw [HP.out], ⟨by have := HK.out; omega⟩, ⟨by have := HLT.out; omega⟩, ⟨by repeat (first | exact HB.out | apply below_alloc | apply pw_below_drewN | apply below_drew1)⟩⟩
        | true =>
          have HLE := Aside0.mk (show leB U i a = true by have h3 := hle; simp only [leI, Int.toNat_natCast] at h3; exact h3)
          have HP := Aside0.mk (show hiP U f a (i + 1) = if hiP U f a i < f i + 1 then f i + 1 else hiP U f a i by rw [hiP]; exact if_pos ⟨HNE.out, HLE.out⟩)
          obtain ⟨x, hx⟩ : ∃ x, x = f i := ⟨_, rfl⟩
          obtain ⟨y, hy⟩ : ∃ y, y = hiP U f a i := ⟨_, rfl⟩
          have HX := Aside0.mk hx
          have HY := Aside0.mk hy
          have hx1 : x ≤ 100 := by rw [hx]; exact HF.out i
          have hxw : wrap64 ((x : Int) + 1) = (x : Int) + 1 := by unfold wrap64; omega
          rw [hle] at k2
          rw [← hy]
          clear hle hx hy
          by_cases hxy : y < x + 1
          · have t1 : ((y : Int) < (x : Int) + 1) = True := eq_true (by omega)
            have HQ := Aside0.mk (show hiP U f a (i + 1) = x + 1 by rw [HP.out, ← HX.out, ← HY.out, if_pos hxy])
            clear hxy
            go_wp2_with (go_at_call 66; (with_reducible refine (IH.out i HLT.out HNE.out HLE.out _ ?s1).mono ?_); (case s1 => exact HV.out.below (by repeat (first | exact HB.out | apply below_alloc | apply pw_below_drewN | apply below_drew1))); rintro e w1 ⟨rfl, hb⟩; rw [← HX.out]; have HB1 := Aside0.mk (below_step (by repeat (first | exact HB.out | apply below_alloc | apply pw_below_drewN | apply below_drew1)) hb); clear hb)
            go_roundg kn
            case measure => omega
            case rel => exact ⟨i + 1, by first | go_num | (rw [wrap_small (by omega) (by have := HLT.out; have := HSM.out; omega)]; go_num), by rw [HQ.out]; go_num, ⟨by have := HK.out; omega⟩, ⟨by have := HLT.out; omega⟩, ⟨by repeat (first | exact HB1.out | apply below_alloc | apply pw_below_drewN | apply below_drew1)⟩⟩
          · have t1 : ((y : Int) < (x : Int) + 1) = False := eq_false (by omega)
            have HQ := Aside0.mk (show hiP U f a (i + 1) = y by rw [HP.out, ← HX.out, ← HY.out, if_neg hxy])
            clear hxy
            go_wp2_with (go_at_call 66; (with_reducible refine (IH.out i HLT.out HNE.out HLE.out _ ?s1).mono ?_); (case s1 => exact HV.out.below (by repeat (first | exact HB.out | apply below_alloc | apply pw_below_drewN | apply below_drew1))); rintro e w1 ⟨rfl, hb⟩; rw [← HX.out]; have HB1 := Aside0.mk (below_step (by repeat (first | exact HB.out | apply below_alloc | apply pw_below_drewN | apply below_drew1)) hb); clear hb)
            go_roundg kn
            case measure => omega
            case rel => exact ⟨i + 1, by first | go_num | (rw [wrap_small (by omega) (by have := HLT.out; have := HSM.out; omega)]; go_num), by rw [HQ.out], ⟨by have := HK.out; omega⟩, ⟨by have := HLT.out; omega⟩, ⟨by repeat (first | exact HB1.out | apply below_alloc | apply pw_below_drewN | apply below_drew1)⟩⟩
    · have hlt' : decide (i < U.length) = false := decide_eq_false hlt
      obtain rfl : i = U.length := by have := HK2.out; omega
      clear hlt
      go_wp2_with fail
      go_ret
      exact ⟨rfl, by repeat (first | exact HB.out | apply below_alloc | apply pw_below_drewN | apply below_drew1)⟩
theorem high_calls (g : Nat) (U : List (List Int)) (N : List Int) (v : Adr) (L : Logic U N) : ∀ k, k ≤ 99 → ∀ a, a < U.length → Deep U k a → ∀ w, View w g U N v →
    Calls Try.prog 66 #[.pointer (some ⟨g, 0, none⟩), .int .i64 a] w fun e w' => e = .returned (.int .i64 (hiF U k a)) ∧ Below w.heap.size w w'
  | 0, _, a, ha, hd, w, hV => by
    have := high_step g U N v w L hV a ha (fun _ => 0) (fun _ => by omega) (fun b hb hne hle => by have := hd b hb hne; rw [this] at hle; exact absurd hle (by simp))
    rw [hiP_none _ (fun b hb hne => hd b hb hne)] at this
    exact this
  | k + 1, hk, a, ha, hd, w, hV => high_step g U N v w L hV a ha (hiF U k) (fun b => Nat.le_trans (hiF_le U k b) (by omega)) (fun b hb hne hle w' hV' => high_calls g U N v L k (by omega) b hb (hd b hb hne hle) w' hV')
end Go.Proofs.Ytjoadckkdophnaa.Print
end
section
namespace Go.Proofs.Ytjoadckkdophnaa.Print
open Go.RowKit Go.Proofs.YtjoadckkdophnaaW.PrintWords Go.Proofs.YtjoadckkdophnaaW.PrintLast Go.Proofs.YtjoadckkdophnaaW.PrintMore
attribute [local go_sem] max2_int min2_int max_two min_two max_three min_three max_four min_four   -- for this text's walks alone
set_option linter.unusedVariables false
set_option linter.unusedSimpArgs false
mutual
def spec_l1Meet.l0 : Nat → List (List Int) → Int → Int → Int → Int → Option (Int)
  | 0, _, _, _, _, _ => none
  | k + 1, x0, x1, x2, x7, x8 => if x8 < (x0.length : Int) then (if 0 ≤ x8 then (if 0 ≤ x1 then (if x1 < ((rd_L1 x0 x8).length : Int) then (if (rd (rd_L1 x0 x8) x1) = 1 then (if 0 ≤ x2 then (if x2 < ((rd_L1 x0 x8).length : Int) then (if (rd (rd_L1 x0 x8) x2) = 1 then (if x7 < 0 then (spec_l1Meet.l0 k x0 x1 x2 x8 (wrap64 (x8 + 1))) else (if 0 ≤ x7 then (if x7 < (x0.length : Int) then (if x8 < ((rd_L1 x0 x7).length : Int) then (if (rd (rd_L1 x0 x7) x8) = 1 then (spec_l1Meet.l0 k x0 x1 x2 x8 (wrap64 (x8 + 1))) else (spec_l1Meet.l0 k x0 x1 x2 x7 (wrap64 (x8 + 1)))) else (none)) else (none)) else (none))) else (spec_l1Meet.l0 k x0 x1 x2 x7 (wrap64 (x8 + 1)))) else (none)) else (none)) else (spec_l1Meet.l0 k x0 x1 x2 x7 (wrap64 (x8 + 1)))) else (none)) else (none)) else (none)) else (spec_l1Meet.l1 k x0 x1 x2 x7 0)
def spec_l1Meet.l1 : Nat → List (List Int) → Int → Int → Int → Int → Option (Int)
  | 0, _, _, _, _, _ => none
  | k + 1, x0, x1, x2, x7, x9 => if x9 < (x0.length : Int) then (if 0 ≤ x9 then (if 0 ≤ x1 then (if x1 < ((rd_L1 x0 x9).length : Int) then (if (rd (rd_L1 x0 x9) x1) = 1 then (if 0 ≤ x2 then (if x2 < ((rd_L1 x0 x9).length : Int) then (if (rd (rd_L1 x0 x9) x2) = 1 then (if 0 ≤ x7 then (if x7 < ((rd_L1 x0 x9).length : Int) then (if (rd (rd_L1 x0 x9) x7) = 0 then (some (-1)) else (spec_l1Meet.l1 k x0 x1 x2 x7 (wrap64 (x9 + 1)))) else (none)) else (none)) else (spec_l1Meet.l1 k x0 x1 x2 x7 (wrap64 (x9 + 1)))) else (none)) else (none)) else (spec_l1Meet.l1 k x0 x1 x2 x7 (wrap64 (x9 + 1)))) else (none)) else (none)) else (none)) else (some x7)
end
def spec_l1Meet.f (k : Nat) (l0 : List (List Int)) (a1 : Int) (a2 : Int) : Option (Int) := spec_l1Meet.l0 k l0 a1 a2 (-1) 0
set_option maxHeartbeats 8000000 in
set_option maxRecDepth 100000 in
theorem spec_l1Meet.calls (k : Nat) (A0 : Option Addr) (c0 : Nat) (l0 : List (List Int)) (a1 : Int) (a2 : Int) (r : Int) (w : World) (hr0 : Kd.C (Kd.slice 3 (Kd.int .i64)) w A0 l0.length l0) (hc0 : l0.length ≤ c0) (h : spec_l1Meet.f k l0 a1 a2 = some r) :
    Calls Try.prog 52 #[.slice A0 l0.length c0, .int .i64 a1, .int .i64 a2] w fun e w' => e = .returned (.int .i64 r) ∧ Drawn0 w w' := by
  have HR0 := Aside0.mk hr0
  have HC0 := Aside0.mk hc0
  clear hr0 hc0
  have H : (spec_l1Meet.l0 k l0 a1 a2 (-1) 0) = some r := h
  clear h
  have H' := Aside0.mk H
  clear H
  go_enter Try.func52, Try.ntmps52
  go_wp2
  go_loopg [7, 8] k (fun kq v7 v8 w' => ∃ (x7_1 : Int) (x8_1 : Int), v7 = .int .i64 x7_1 ∧ v8 = .int .i64 x8_1 ∧ Aside0 (spec_l1Meet.l0 kq l0 a1 a2 x7_1 x8_1 = some r) ∧ Aside0 (kq ≤ k) ∧ Drawn0 w w')
  case atStart => exact ⟨((-1)), (0), (by first | rfl | (simp; done) | (simp [*]; done)), (by first | rfl | (simp; done) | (simp [*]; done)), H', ⟨Nat.le_refl _⟩, by repeat (first | exact Drawn0.refl _ | apply Drawn0.step)⟩
  case round =>
    clear H'
    try clear p2
    obtain ⟨x7_1, x8_1, rfl, rfl, HA, HK1, ⟨m1, rfl⟩⟩ := hrel
    cases gk with
    | zero => exact absurd HA.out (by simp [spec_l1Meet.l0])
    | succ k1 =>
      have H := HA.out
      clear HA
      simp only [spec_l1Meet.l0] at H
      by_cases c4 : x8_1 < (l0.length : Int)
      · rw [if_pos c4] at H
        have c4b0 : decide (x8_1 < (l0.length : Int)) = true := decide_eq_true c4
        clear c4
        by_cases c5 : 0 ≤ x8_1
        · rw [if_pos c5] at H
          have c5b0 : decide (0 ≤ x8_1) = true := decide_eq_true c5
          clear c5
          by_cases c6 : 0 ≤ a1
          · rw [if_pos c6] at H
            have c6b0 : decide (0 ≤ a1) = true := decide_eq_true c6
            clear c6
            by_cases c7 : a1 < ((rd_L1 l0 x8_1).length : Int)
            · rw [if_pos c7] at H
              have c7b0 : decide (a1 < ((rd_L1 l0 x8_1).length : Int)) = true := decide_eq_true c7
              clear c7
              by_cases c8 : (rd (rd_L1 l0 x8_1) a1) = 1
              · rw [if_pos c8] at H
                have c8b0 : ((rd (rd_L1 l0 x8_1) a1) == 1) = true := beq_iff_eq.mpr c8
                have c8b1 : ((rd (rd_L1 l0 x8_1) a1) != 1) = false := bne_eq_false_iff_eq.mpr c8
                clear c8
                by_cases c9 : 0 ≤ a2
                · rw [if_pos c9] at H
                  have c9b0 : decide (0 ≤ a2) = true := decide_eq_true c9
                  clear c9
                  by_cases c10 : a2 < ((rd_L1 l0 x8_1).length : Int)
                  · rw [if_pos c10] at H
                    have c10b0 : decide (a2 < ((rd_L1 l0 x8_1).length : Int)) = true := decide_eq_true c10
                    clear c10
                    by_cases c11 : (rd (rd_L1 l0 x8_1) a2) = 1
                    · rw [if_pos c11] at H
                      have c11b0 : ((rd (rd_L1 l0 x8_1) a2) == 1) = true := beq_iff_eq.mpr c11
                      have c11b1 : ((rd (rd_L1 l0 x8_1) a2) != 1) = false := bne_eq_false_iff_eq.mpr c11
                      clear c11
                      by_cases c12 : x7_1 < 0
                      · rw [if_pos c12] at H
                        have c12b0 : decide (x7_1 < 0) = true := decide_eq_true c12
                        clear c12
                        have H' := Aside0.mk H
                        clear H
                        have p112 : 0 ≤ (x8_1 : Int) := of_decide_eq_true (by first | (with_reducible assumption) | assumption)
                        have q112 : x8_1 < (l0.length : Int) := of_decide_eq_true (by first | (with_reducible assumption) | assumption)
                        obtain ⟨ad112, A112_0, c112_0, e112, hx112_0, hl112_0, hi112_0⟩ := at_L1 HR0.out x8_1 p112 q112
                        cases e112
                        have HR112_0 := Aside0.mk hi112_0
                        have HC112_0 := Aside0.mk hl112_0
                        clear hi112_0 hl112_0
                        replace p112 := eq_true p112
                        replace q112 := eq_true q112
                        have p113 : 0 ≤ (a1 : Int) := of_decide_eq_true (by first | (with_reducible assumption) | assumption)
                        have q113 : a1 < ((rd_L1 l0 x8_1).length : Int) := of_decide_eq_true (by first | (with_reducible assumption) | assumption)
                        obtain ⟨ad113, e113, hx113_0⟩ := Kd.at_int HR112_0.out a1 p113 q113
                        cases e113
                        replace p113 := eq_true p113
                        replace q113 := eq_true q113
                        have p114 : 0 ≤ (x8_1 : Int) := of_decide_eq_true (by first | (with_reducible assumption) | assumption)
                        have q114 : x8_1 < (l0.length : Int) := of_decide_eq_true (by first | (with_reducible assumption) | assumption)
                        obtain ⟨ad114, A114_0, c114_0, e114, hx114_0, hl114_0, hi114_0⟩ := at_L1 HR0.out x8_1 p114 q114
                        obtain rfl : ad112 = ad114 := (by injection e114)
                        have HR114_0 := Aside0.mk hi114_0
                        have HC114_0 := Aside0.mk hl114_0
                        clear hi114_0 hl114_0
                        replace p114 := eq_true p114
                        replace q114 := eq_true q114
                        have ea_ := Option.some.inj (hx112_0.symm.trans hx114_0)
                        injection ea_ with ea_ en_ ec_
                        subst ea_
                        subst ec_
                        clear en_
                        have p115 : 0 ≤ (a2 : Int) := of_decide_eq_true (by first | (with_reducible assumption) | assumption)
                        have q115 : a2 < ((rd_L1 l0 x8_1).length : Int) := of_decide_eq_true (by first | (with_reducible assumption) | assumption)
                        obtain ⟨ad115, e115, hx115_0⟩ := Kd.at_int HR114_0.out a2 p115 q115
                        cases e115
                        replace p115 := eq_true p115
                        replace q115 := eq_true q115
                        go_wp2
                        go_roundg k1
                        case measure => have := HK1.out; omega
                        case rel => exact ⟨(x8_1), (wrap64 (x8_1 + 1)), (by first | rfl | (simp; done) | (simp [*]; done)), (by first | rfl | (simp; done) | (simp [*]; done)), H', ⟨by have := HK1.out; omega⟩, by repeat (first | exact Drawn0.refl _ | apply Drawn0.step)⟩
                      · rw [if_neg c12] at H
                        have c12b0 : decide (x7_1 < 0) = false := decide_eq_false c12
                        clear c12
                        by_cases c13 : 0 ≤ x7_1
                        · rw [if_pos c13] at H
                          have c13b0 : decide (0 ≤ x7_1) = true := decide_eq_true c13
                          clear c13
                          by_cases c14 : x7_1 < (l0.length : Int)
                          · rw [if_pos c14] at H
                            have c14b0 : decide (x7_1 < (l0.length : Int)) = true := decide_eq_true c14
                            clear c14
                            by_cases c15 : x8_1 < ((rd_L1 l0 x7_1).length : Int)
                            · rw [if_pos c15] at H
                              have c15b0 : decide (x8_1 < ((rd_L1 l0 x7_1).length : Int)) = true := decide_eq_true c15
                              clear c15
                              by_cases c16 : (rd (rd_L1 l0 x7_1) x8_1) = 1
                              · rw [if_pos c16] at H
                                have c16b0 : ((rd (rd_L1 l0 x7_1) x8_1) == 1) = true := beq_iff_eq.mpr c16
                                have c16b1 : ((rd (rd_L1 l0 x7_1) x8_1) != 1) = false := bne_eq_false_iff_eq.mpr c16
                                clear c16
                                have H' := Aside0.mk H
                                clear H
                                have p112 : 0 ≤ (x8_1 : Int) := of_decide_eq_true (by first | (with_reducible assumption) | assumption)
                                have q112 : x8_1 < (l0.length : Int) := of_decide_eq_true (by first | (with_reducible assumption) | assumption)
                                obtain ⟨ad112, A112_0, c112_0, e112, hx112_0, hl112_0, hi112_0⟩ := at_L1 HR0.out x8_1 p112 q112
                                cases e112
                                have HR112_0 := Aside0.mk hi112_0
                                have HC112_0 := Aside0.mk hl112_0
                                clear hi112_0 hl112_0
                                replace p112 := eq_true p112
                                replace q112 := eq_true q112
                                have p113 : 0 ≤ (a1 : Int) := of_decide_eq_true (by first | (with_reducible assumption) | assumption)
                                have q113 : a1 < ((rd_L1 l0 x8_1).length : Int) := of_decide_eq_true (by first | (with_reducible assumption) | assumption)
                                obtain ⟨ad113, e113, hx113_0⟩ := Kd.at_int HR112_0.out a1 p113 q113
                                cases e113
                                replace p113 := eq_true p113
                                replace q113 := eq_true q113
                                have p114 : 0 ≤ (x8_1 : Int) := of_decide_eq_true (by first | (with_reducible assumption) | assumption)
                                have q114 : x8_1 < (l0.length : Int) := of_decide_eq_true (by first | (with_reducible assumption) | assumption)
                                obtain ⟨ad114, A114_0, c114_0, e114, hx114_0, hl114_0, hi114_0⟩ := at_L1 HR0.out x8_1 p114 q114
                                obtain rfl : ad112 = ad114 := (by injection e114)
                                have HR114_0 := Aside0.mk hi114_0
                                have HC114_0 := Aside0.mk hl114_0
                                clear hi114_0 hl114_0
                                replace p114 := eq_true p114
                                replace q114 := eq_true q114
                                have ea_ := Option.some.inj (hx112_0.symm.trans hx114_0)
                                injection ea_ with ea_ en_ ec_
                                subst ea_
                                subst ec_
                                clear en_
                                have p115 : 0 ≤ (a2 : Int) := of_decide_eq_true (by first | (with_reducible assumption) | assumption)
                                have q115 : a2 < ((rd_L1 l0 x8_1).length : Int) := of_decide_eq_true (by first | (with_reducible assumption) | assumption)
                                obtain ⟨ad115, e115, hx115_0⟩ := Kd.at_int HR114_0.out a2 p115 q115
                                cases e115
                                replace p115 := eq_true p115
                                replace q115 := eq_true q115
                                have p116 : 0 ≤ (x7_1 : Int) := of_decide_eq_true (by first | (with_reducible assumption) | assumption)
                                have q116 : x7_1 < (l0.length : Int) := of_decide_eq_true (by first | (with_reducible assumption) | assumption)
                                obtain ⟨ad116, A116_0, c116_0, e116, hx116_0, hl116_0, hi116_0⟩ := at_L1 HR0.out x7_1 p116 q116
                                obtain rfl : ad112 = ad116 := (by injection e116)
                                have HR116_0 := Aside0.mk hi116_0
                                have HC116_0 := Aside0.mk hl116_0
                                clear hi116_0 hl116_0
                                replace p116 := eq_true p116
                                replace q116 := eq_true q116
                                have p117 : 0 ≤ (x8_1 : Int) := of_decide_eq_true (by first | (with_reducible assumption) | assumption)
                                have q117 : x8_1 < ((rd_L1 l0 x7_1).length : Int) := of_decide_eq_true (by first | (with_reducible assumption) | assumption)
                                obtain ⟨ad117, e117, hx117_0⟩ := Kd.at_int HR116_0.out x8_1 p117 q117
                                cases e117
                                replace p117 := eq_true p117
                                replace q117 := eq_true q117
                                go_wp2
                                go_roundg k1
                                case measure => have := HK1.out; omega
                                case rel => exact ⟨(x8_1), (wrap64 (x8_1 + 1)), (by first | rfl | (simp; done) | (simp [*]; done)), (by first | rfl | (simp; done) | (simp [*]; done)), H', ⟨by have := HK1.out; omega⟩, by repeat (first | exact Drawn0.refl _ | apply Drawn0.step)⟩
                              · rw [if_neg c16] at H
                                have c16b0 : ((rd (rd_L1 l0 x7_1) x8_1) == 1) = false := beq_eq_false_iff_ne.mpr c16
                                have c16b1 : ((rd (rd_L1 l0 x7_1) x8_1) != 1) = true := bne_iff_ne.mpr c16
                                have H' := Aside0.mk H
                                clear H
                                have p112 : 0 ≤ (x8_1 : Int) := of_decide_eq_true (by first | (with_reducible assumption) | assumption)
                                have q112 : x8_1 < (l0.length : Int) := of_decide_eq_true (by first | (with_reducible assumption) | assumption)
                                obtain ⟨ad112, A112_0, c112_0, e112, hx112_0, hl112_0, hi112_0⟩ := at_L1 HR0.out x8_1 p112 q112
                                cases e112
                                have HR112_0 := Aside0.mk hi112_0
                                have HC112_0 := Aside0.mk hl112_0
                                clear hi112_0 hl112_0
                                replace p112 := eq_true p112
                                replace q112 := eq_true q112
                                have p113 : 0 ≤ (a1 : Int) := of_decide_eq_true (by first | (with_reducible assumption) | assumption)
                                have q113 : a1 < ((rd_L1 l0 x8_1).length : Int) := of_decide_eq_true (by first | (with_reducible assumption) | assumption)
                                obtain ⟨ad113, e113, hx113_0⟩ := Kd.at_int HR112_0.out a1 p113 q113
                                cases e113
                                replace p113 := eq_true p113
                                replace q113 := eq_true q113
                                have p114 : 0 ≤ (x8_1 : Int) := of_decide_eq_true (by first | (with_reducible assumption) | assumption)
                                have q114 : x8_1 < (l0.length : Int) := of_decide_eq_true (by first | (with_reducible assumption) | assumption)
                                obtain ⟨ad114, A114_0, c114_0, e114, hx114_0, hl114_0, hi114_0⟩ := at_L1 HR0.out x8_1 p114 q114
                                obtain rfl : ad112 = ad114 := (by injection e114)
                                have HR114_0 := Aside0.mk hi114_0
                                have HC114_0 := Aside0.mk hl114_0
                                clear hi114_0 hl114_0
                                replace p114 := eq_true p114
                                replace q114 := eq_true q114
                                have ea_ := Option.some.inj (hx112_0.symm.trans hx114_0)
                                injection ea_ with ea_ en_ ec_
                                subst ea_
                                subst ec_
                                clear en_
                                have p115 : 0 ≤ (a2 : Int) := of_decide_eq_true (by first | (with_reducible assumption) | assumption)
                                have q115 : a2 < ((rd_L1 l0 x8_1).length : Int) := of_decide_eq_true (by first | (with_reducible assumption) | assumption)
                                obtain ⟨ad115, e115, hx115_0⟩ := Kd.at_int HR114_0.out a2 p115 q115
                                cases e115
                                replace p115 := eq_true p115
                                replace q115 := eq_true q115
                                have p116 : 0 ≤ (x7_1 : Int) := of_decide_eq_true (by first | (with_reducible assumption) | assumption)
                                have q116 : x7_1 < (l0.length : Int) := of_decide_eq_true (by first | (with_reducible assumption) | assumption)
                                obtain ⟨ad116, A116_0, c116_0, e116, hx116_0, hl116_0, hi116_0⟩ := at_L1 HR0.out x7_1 p116 q116
                                obtain rfl : ad112 = ad116 := (by injection e116)
                                have HR116_0 := Aside0.mk hi116_0
                                have HC116_0 := Aside0.mk hl116_0
                                clear hi116_0 hl116_0
                                replace p116 := eq_true p116
                                replace q116 := eq_true q116
                                have p117 : 0 ≤ (x8_1 : Int) := of_decide_eq_true (by first | (with_reducible assumption) | assumption)
                                have q117 : x8_1 < ((rd_L1 l0 x7_1).length : Int) := of_decide_eq_true (by first | (with_reducible assumption) | assumption)
                                obtain ⟨ad117, e117, hx117_0⟩ := Kd.at_int HR116_0.out x8_1 p117 q117
                                cases e117
                                replace p117 := eq_true p117
                                replace q117 := eq_true q117
                                go_wp2
                                go_roundg k1
                                case measure => have := HK1.out; omega
                                case rel => exact ⟨(x7_1), (wrap64 (x8_1 + 1)), (by first | rfl | (simp; done) | (simp [*]; done)), (by first | rfl | (simp; done) | (simp [*]; done)), H', ⟨by have := HK1.out; omega⟩, by repeat (first | exact Drawn0.refl _ | apply Drawn0.step)⟩
                            · rw [if_neg c15] at H
                              exact absurd H (by simp)
                          · rw [if_neg c14] at H
                            exact absurd H (by simp)
                        · rw [if_neg c13] at H
                          exact absurd H (by simp)
                    · rw [if_neg c11] at H
                      have c11b0 : ((rd (rd_L1 l0 x8_1) a2) == 1) = false := beq_eq_false_iff_ne.mpr c11
                      have c11b1 : ((rd (rd_L1 l0 x8_1) a2) != 1) = true := bne_iff_ne.mpr c11
                      have H' := Aside0.mk H
                      clear H
                      have p112 : 0 ≤ (x8_1 : Int) := of_decide_eq_true (by first | (with_reducible assumption) | assumption)
                      have q112 : x8_1 < (l0.length : Int) := of_decide_eq_true (by first | (with_reducible assumption) | assumption)
                      obtain ⟨ad112, A112_0, c112_0, e112, hx112_0, hl112_0, hi112_0⟩ := at_L1 HR0.out x8_1 p112 q112
                      cases e112
                      have HR112_0 := Aside0.mk hi112_0
                      have HC112_0 := Aside0.mk hl112_0
                      clear hi112_0 hl112_0
                      replace p112 := eq_true p112
                      replace q112 := eq_true q112
                      have p113 : 0 ≤ (a1 : Int) := of_decide_eq_true (by first | (with_reducible assumption) | assumption)
                      have q113 : a1 < ((rd_L1 l0 x8_1).length : Int) := of_decide_eq_true (by first | (with_reducible assumption) | assumption)
                      obtain ⟨ad113, e113, hx113_0⟩ := Kd.at_int HR112_0.out a1 p113 q113
                      cases e113
                      replace p113 := eq_true p113
                      replace q113 := eq_true q113
                      have p114 : 0 ≤ (x8_1 : Int) := of_decide_eq_true (by first | (with_reducible assumption) | assumption)
                      have q114 : x8_1 < (l0.length : Int) := of_decide_eq_true (by first | (with_reducible assumption) | assumption)
                      obtain ⟨ad114, A114_0, c114_0, e114, hx114_0, hl114_0, hi114_0⟩ := at_L1 HR0.out x8_1 p114 q114
                      obtain rfl : ad112 = ad114 := (by injection e114)
                      have HR114_0 := Aside0.mk hi114_0
                      have HC114_0 := Aside0.mk hl114_0
                      clear hi114_0 hl114_0
                      replace p114 := eq_true p114
                      replace q114 := eq_true q114
                      have ea_ := Option.some.inj (hx112_0.symm.trans hx114_0)
                      injection ea_ with ea_ en_ ec_
                      subst ea_
                      subst ec_
                      clear en_
                      have p115 : 0 ≤ (a2 : Int) := of_decide_eq_true (by first | (with_reducible assumption) | assumption)
                      have q115 : a2 < ((rd_L1 l0 x8_1).length : Int) := of_decide_eq_true (by first | (with_reducible assumption) | assumption)
                      obtain ⟨ad115, e115, hx115_0⟩ := Kd.at_int HR114_0.out a2 p115 q115
                      cases e115
                      replace p115 := eq_true p115
                      replace q115 := eq_true q115
                      go_wp2
                      go_roundg k1
                      case measure => have := HK1.out; omega
                      case rel => exact ⟨(x7_1), (wrap64 (x8_1 + 1)), (by first | rfl | (simp; done) | (simp [*]; done)), (by first | rfl | (simp; done) | (simp [*]; done)), H', ⟨by have := HK1.out; omega⟩, by repeat (first | exact Drawn0.refl _ | apply Drawn0.step)⟩
                  · rw [if_neg c10] at H
                    exact absurd H (by simp)
                · rw [if_neg c9] at H
                  exact absurd H (by simp)
              · rw [if_neg c8] at H
                have c8b0 : ((rd (rd_L1 l0 x8_1) a1) == 1) = false := beq_eq_false_iff_ne.mpr c8
                have c8b1 : ((rd (rd_L1 l0 x8_1) a1) != 1) = true := bne_iff_ne.mpr c8
                have H' := Aside0.mk H
                clear H
                have p112 : 0 ≤ (x8_1 : Int) := of_decide_eq_true (by first | (with_reducible assumption) | assumption)
                have q112 : x8_1 < (l0.length : Int) := of_decide_eq_true (by first | (with_reducible assumption) | assumption)
                obtain ⟨ad112, A112_0, c112_0, e112, hx112_0, hl112_0, hi112_0⟩ := at_L1 HR0.out x8_1 p112 q112
                cases e112
                have HR112_0 := Aside0.mk hi112_0
                have HC112_0 := Aside0.mk hl112_0
                clear hi112_0 hl112_0
                replace p112 := eq_true p112
                replace q112 := eq_true q112
                have p113 : 0 ≤ (a1 : Int) := of_decide_eq_true (by first | (with_reducible assumption) | assumption)
                have q113 : a1 < ((rd_L1 l0 x8_1).length : Int) := of_decide_eq_true (by first | (with_reducible assumption) | assumption)
                obtain ⟨ad113, e113, hx113_0⟩ := Kd.at_int HR112_0.out a1 p113 q113
                cases e113
                replace p113 := eq_true p113
                replace q113 := eq_true q113
                go_wp2
                go_roundg k1
                case measure => have := HK1.out; omega
                case rel => exact ⟨(x7_1), (wrap64 (x8_1 + 1)), (by first | rfl | (simp; done) | (simp [*]; done)), (by first | rfl | (simp; done) | (simp [*]; done)), H', ⟨by have := HK1.out; omega⟩, by repeat (first | exact Drawn0.refl _ | apply Drawn0.step)⟩
            · rw [if_neg c7] at H
              exact absurd H (by simp)
          · rw [if_neg c6] at H
            exact absurd H (by simp)
        · rw [if_neg c5] at H
          exact absurd H (by simp)
      · rw [if_neg c4] at H
        have c4b0 : decide (x8_1 < (l0.length : Int)) = false := decide_eq_false c4
        clear c4
        have H' := Aside0.mk H
        clear H
        go_wp2
        go_loopg [9] k1 (fun kq v9 w' => ∃ (x9_2 : Int), v9 = .int .i64 x9_2 ∧ Aside0 (spec_l1Meet.l1 kq l0 a1 a2 x7_1 x9_2 = some r) ∧ Aside0 (kq ≤ k1) ∧ Drawn0 w w')
        case atStart => exact ⟨(0), (by first | rfl | (simp; done) | (simp [*]; done)), H', ⟨Nat.le_refl _⟩, by repeat (first | exact Drawn0.refl _ | apply Drawn0.step)⟩
        case round =>
          clear H'
          try clear c1
          try clear p1
          try clear q1
          try clear hx1
          try clear p2
          try clear c4
          try clear c4b0
          try clear c5
          try clear c5b0
          try clear c6
          try clear c6b0
          try clear p6
          try clear c7
          try clear c7b0
          try clear c8
          try clear c8b0
          try clear c8b1
          try clear c9
          try clear c9b0
          try clear c10
          try clear c10b0
          try clear c11
          try clear c11b0
          try clear c11b1
          try clear p11
          try clear q11
          try clear hx11
          try clear c12
          try clear c12b0
          try clear c13
          try clear c13b0
          try clear c14
          try clear c14b0
          try clear c15
          try clear c15b0
          try clear c16
          try clear c16b0
          try clear c16b1
          try clear hx112_0
          try clear hx113_0
          try clear hx114_0
          try clear hx115_0
          try clear hx116_0
          try clear hx117_0
          try clear p112
          try clear p113
          try clear p114
          try clear p115
          try clear p116
          try clear p117
          try clear p2
          try clear q112
          try clear q113
          try clear q114
          try clear q115
          try clear q116
          try clear q117
          obtain ⟨x9_2, rfl, HA, HK2, ⟨m2, rfl⟩⟩ := hrel
          cases gk with
          | zero => exact absurd HA.out (by simp [spec_l1Meet.l1])
          | succ k2 =>
            have H := HA.out
            clear HA
            simp only [spec_l1Meet.l1] at H
            by_cases c17 : x9_2 < (l0.length : Int)
            · rw [if_pos c17] at H
              have c17b0 : decide (x9_2 < (l0.length : Int)) = true := decide_eq_true c17
              clear c17
              by_cases c18 : 0 ≤ x9_2
              · rw [if_pos c18] at H
                have c18b0 : decide (0 ≤ x9_2) = true := decide_eq_true c18
                clear c18
                by_cases c19 : 0 ≤ a1
                · rw [if_pos c19] at H
                  have c19b0 : decide (0 ≤ a1) = true := decide_eq_true c19
                  clear c19
                  by_cases c20 : a1 < ((rd_L1 l0 x9_2).length : Int)
                  · rw [if_pos c20] at H
                    have c20b0 : decide (a1 < ((rd_L1 l0 x9_2).length : Int)) = true := decide_eq_true c20
                    clear c20
                    by_cases c21 : (rd (rd_L1 l0 x9_2) a1) = 1
                    · rw [if_pos c21] at H
                      have c21b0 : ((rd (rd_L1 l0 x9_2) a1) == 1) = true := beq_iff_eq.mpr c21
                      have c21b1 : ((rd (rd_L1 l0 x9_2) a1) != 1) = false := bne_eq_false_iff_eq.mpr c21
                      clear c21
                      by_cases c22 : 0 ≤ a2
                      · rw [if_pos c22] at H
                        have c22b0 : decide (0 ≤ a2) = true := decide_eq_true c22
                        clear c22
                        by_cases c23 : a2 < ((rd_L1 l0 x9_2).length : Int)
                        · rw [if_pos c23] at H
                          have c23b0 : decide (a2 < ((rd_L1 l0 x9_2).length : Int)) = true := decide_eq_true c23
                          clear c23
                          by_cases c24 : (rd (rd_L1 l0 x9_2) a2) = 1
                          · rw [if_pos c24] at H
                            have c24b0 : ((rd (rd_L1 l0 x9_2) a2) == 1) = true := beq_iff_eq.mpr c24
                            have c24b1 : ((rd (rd_L1 l0 x9_2) a2) != 1) = false := bne_eq_false_iff_eq.mpr c24
                            clear c24
                            by_cases c25 : 0 ≤ x7_1
                            · rw [if_pos c25] at H
                              have c25b0 : decide (0 ≤ x7_1) = true := decide_eq_true c25
                              clear c25
                              by_cases c26 : x7_1 < ((rd_L1 l0 x9_2).length : Int)
                              · rw [if_pos c26] at H
                                have c26b0 : decide (x7_1 < ((rd_L1 l0 x9_2).length : Int)) = true := decide_eq_true c26
                                clear c26
                                by_cases c27 : (rd (rd_L1 l0 x9_2) x7_1) = 0
                                · rw [if_pos c27] at H
                                  have c27b0 : ((rd (rd_L1 l0 x9_2) x7_1) == 0) = true := beq_iff_eq.mpr c27
                                  have c27b1 : ((rd (rd_L1 l0 x9_2) x7_1) != 0) = false := bne_eq_false_iff_eq.mpr c27
                                  clear c27
                                  obtain rfl := Option.some.inj H
                                  have p118 : 0 ≤ (x9_2 : Int) := of_decide_eq_true (by first | (with_reducible assumption) | assumption)
                                  have q118 : x9_2 < (l0.length : Int) := of_decide_eq_true (by first | (with_reducible assumption) | assumption)
                                  obtain ⟨ad118, A118_0, c118_0, e118, hx118_0, hl118_0, hi118_0⟩ := at_L1 HR0.out x9_2 p118 q118
                                  cases e118
                                  have HR118_0 := Aside0.mk hi118_0
                                  have HC118_0 := Aside0.mk hl118_0
                                  clear hi118_0 hl118_0
                                  replace p118 := eq_true p118
                                  replace q118 := eq_true q118
                                  have p119 : 0 ≤ (a1 : Int) := of_decide_eq_true (by first | (with_reducible assumption) | assumption)
                                  have q119 : a1 < ((rd_L1 l0 x9_2).length : Int) := of_decide_eq_true (by first | (with_reducible assumption) | assumption)
                                  obtain ⟨ad119, e119, hx119_0⟩ := Kd.at_int HR118_0.out a1 p119 q119
                                  cases e119
                                  replace p119 := eq_true p119
                                  replace q119 := eq_true q119
                                  have p120 : 0 ≤ (x9_2 : Int) := of_decide_eq_true (by first | (with_reducible assumption) | assumption)
                                  have q120 : x9_2 < (l0.length : Int) := of_decide_eq_true (by first | (with_reducible assumption) | assumption)
                                  obtain ⟨ad120, A120_0, c120_0, e120, hx120_0, hl120_0, hi120_0⟩ := at_L1 HR0.out x9_2 p120 q120
                                  obtain rfl : ad118 = ad120 := (by injection e120)
                                  have HR120_0 := Aside0.mk hi120_0
                                  have HC120_0 := Aside0.mk hl120_0
                                  clear hi120_0 hl120_0
                                  replace p120 := eq_true p120
                                  replace q120 := eq_true q120
                                  have ea_ := Option.some.inj (hx118_0.symm.trans hx120_0)
                                  injection ea_ with ea_ en_ ec_
                                  subst ea_
                                  subst ec_
                                  clear en_
                                  have p121 : 0 ≤ (a2 : Int) := of_decide_eq_true (by first | (with_reducible assumption) | assumption)
                                  have q121 : a2 < ((rd_L1 l0 x9_2).length : Int) := of_decide_eq_true (by first | (with_reducible assumption) | assumption)
                                  obtain ⟨ad121, e121, hx121_0⟩ := Kd.at_int HR120_0.out a2 p121 q121
                                  cases e121
                                  replace p121 := eq_true p121
                                  replace q121 := eq_true q121
                                  have p122 : 0 ≤ (x9_2 : Int) := of_decide_eq_true (by first | (with_reducible assumption) | assumption)
                                  have q122 : x9_2 < (l0.length : Int) := of_decide_eq_true (by first | (with_reducible assumption) | assumption)
                                  obtain ⟨ad122, A122_0, c122_0, e122, hx122_0, hl122_0, hi122_0⟩ := at_L1 HR0.out x9_2 p122 q122
                                  obtain rfl : ad118 = ad122 := (by injection e122)
                                  have HR122_0 := Aside0.mk hi122_0
                                  have HC122_0 := Aside0.mk hl122_0
                                  clear hi122_0 hl122_0
                                  replace p122 := eq_true p122
                                  replace q122 := eq_true q122
                                  have ea_ := Option.some.inj (hx118_0.symm.trans hx122_0)
                                  injection ea_ with ea_ en_ ec_
                                  subst ea_
                                  subst ec_
                                  clear en_
                                  have p123 : 0 ≤ (x7_1 : Int) := of_decide_eq_true (by first | (with_reducible assumption) | assumption)
                                  have q123 : x7_1 < ((rd_L1 l0 x9_2).length : Int) := of_decide_eq_true (by first | (with_reducible assumption) | assumption)
                                  obtain ⟨ad123, e123, hx123_0⟩ := Kd.at_int HR122_0.out x7_1 p123 q123
                                  cases e123
                                  replace p123 := eq_true p123
                                  replace q123 := eq_true q123
                                  go_wp2
                                  go_ret
                                  exact ⟨by first | rfl | (simp; done) | (simp [*]; done), by repeat (first | exact Drawn0.refl _ | apply Drawn0.step)⟩
                                · rw [if_neg c27] at H
                                  have c27b0 : ((rd (rd_L1 l0 x9_2) x7_1) == 0) = false := beq_eq_false_iff_ne.mpr c27
                                  have c27b1 : ((rd (rd_L1 l0 x9_2) x7_1) != 0) = true := bne_iff_ne.mpr c27
                                  have H' := Aside0.mk H
                                  clear H
                                  have p118 : 0 ≤ (x9_2 : Int) := of_decide_eq_true (by first | (with_reducible assumption) | assumption)
                                  have q118 : x9_2 < (l0.length : Int) := of_decide_eq_true (by first | (with_reducible assumption) | assumption)
                                  obtain ⟨ad118, A118_0, c118_0, e118, hx118_0, hl118_0, hi118_0⟩ := at_L1 HR0.out x9_2 p118 q118
                                  cases e118
                                  have HR118_0 := Aside0.mk hi118_0
                                  have HC118_0 := Aside0.mk hl118_0
                                  clear hi118_0 hl118_0
                                  replace p118 := eq_true p118
                                  replace q118 := eq_true q118
                                  have p119 : 0 ≤ (a1 : Int) := of_decide_eq_true (by first | (with_reducible assumption) | assumption)
                                  have q119 : a1 < ((rd_L1 l0 x9_2).length : Int) := of_decide_eq_true (by first | (with_reducible assumption) | assumption)
                                  obtain ⟨ad119, e119, hx119_0⟩ := Kd.at_int HR118_0.out a1 p119 q119
                                  cases e119
                                  replace p119 := eq_true p119
                                  replace q119 := eq_true q119
                                  have p120 : 0 ≤ (x9_2 : Int) := of_decide_eq_true (by first | (with_reducible assumption) | assumption)
                                  have q120 : x9_2 < (l0.length : Int) := of_decide_eq_true (by first | (with_reducible assumption) | assumption)
                                  obtain ⟨ad120, A120_0, c120_0, e120, hx120_0, hl120_0, hi120_0⟩ := at_L1 HR0.out x9_2 p120 q120
                                  obtain rfl : ad118 = ad120 := (by injection e120)
                                  have HR120_0 := Aside0.mk hi120_0
                                  have HC120_0 := Aside0.mk hl120_0
                                  clear hi120_0 hl120_0
                                  replace p120 := eq_true p120
                                  replace q120 := eq_true q120
                                  have ea_ := Option.some.inj (hx118_0.symm.trans hx120_0)
                                  injection ea_ with ea_ en_ ec_
                                  subst ea_
                                  subst ec_
                                  clear en_
                                  have p121 : 0 ≤ (a2 : Int) := of_decide_eq_true (by first | (with_reducible assumption) | assumption)
                                  have q121 : a2 < ((rd_L1 l0 x9_2).length : Int) := of_decide_eq_true (by first | (with_reducible assumption) | assumption)
                                  obtain ⟨ad121, e121, hx121_0⟩ := Kd.at_int HR120_0.out a2 p121 q121
                                  cases e121
                                  replace p121 := eq_true p121
                                  replace q121 := eq_true q121
                                  have p122 : 0 ≤ (x9_2 : Int) := of_decide_eq_true (by first | (with_reducible assumption) | assumption)
                                  have q122 : x9_2 < (l0.length : Int) := of_decide_eq_true (by first | (with_reducible assumption) | assumption)
                                  obtain ⟨ad122, A122_0, c122_0, e122, hx122_0, hl122_0, hi122_0⟩ := at_L1 HR0.out x9_2 p122 q122
                                  obtain rfl : ad118 = ad122 := (by injection e122)
                                  have HR122_0 := Aside0.mk hi122_0
                                  have HC122_0 := Aside0.mk hl122_0
                                  clear hi122_0 hl122_0
                                  replace p122 := eq_true p122
                                  replace q122 := eq_true q122
                                  have ea_ := Option.some.inj (hx118_0.symm.trans hx122_0)
                                  injection ea_ with ea_ en_ ec_
                                  subst ea_
                                  subst ec_
                                  clear en_
                                  have p123 : 0 ≤ (x7_1 : Int) := of_decide_eq_true (by first | (with_reducible assumption) | assumption)
                                  have q123 : x7_1 < ((rd_L1 l0 x9_2).length : Int) := of_decide_eq_true (by first | (with_reducible assumption) | assumption)
                                  obtain ⟨ad123, e123, hx123_0⟩ := Kd.at_int HR122_0.out x7_1 p123 q123
                                  cases e123
                                  replace p123 := eq_true p123
                                  replace q123 := eq_true q123
                                  go_wp2
                                  go_roundg k2
                                  case measure => have := HK1.out; have := HK2.out; omega
                                  case rel => exact ⟨(wrap64 (x9_2 + 1)), (by first | rfl | (simp; done) | (simp [*]; done)), H', ⟨by have := HK1.out; have := HK2.out; omega⟩, by repeat (first | exact Drawn0.refl _ | apply Drawn0.step)⟩
                              · rw [if_neg c26] at H
                                exact absurd H (by simp)
                            · rw [if_neg c25] at H
                              exact absurd H (by simp)
                          · rw [if_neg c24] at H
                            have c24b0 : ((rd (rd_L1 l0 x9_2) a2) == 1) = false := beq_eq_false_iff_ne.mpr c24
                            have c24b1 : ((rd (rd_L1 l0 x9_2) a2) != 1) = true := bne_iff_ne.mpr c24
                            have H' := Aside0.mk H
                            clear H
                            have p118 : 0 ≤ (x9_2 : Int) := of_decide_eq_true (by first | (with_reducible assumption) | assumption)
                            have q118 : x9_2 < (l0.length : Int) := of_decide_eq_true (by first | (with_reducible assumption) | assumption)
                            obtain ⟨ad118, A118_0, c118_0, e118, hx118_0, hl118_0, hi118_0⟩ := at_L1 HR0.out x9_2 p118 q118
                            cases e118
                            have HR118_0 := Aside0.mk hi118_0
                            have HC118_0 := Aside0.mk hl118_0
                            clear hi118_0 hl118_0
                            replace p118 := eq_true p118
                            replace q118 := eq_true q118
                            have p119 : 0 ≤ (a1 : Int) := of_decide_eq_true (by first | (with_reducible assumption) | assumption)
                            have q119 : a1 < ((rd_L1 l0 x9_2).length : Int) := of_decide_eq_true (by first | (with_reducible assumption) | assumption)
                            obtain ⟨ad119, e119, hx119_0⟩ := Kd.at_int HR118_0.out a1 p119 q119
                            cases e119
                            replace p119 := eq_true p119
                            replace q119 := eq_true q119
                            have p120 : 0 ≤ (x9_2 : Int) := of_decide_eq_true (by first | (with_reducible assumption) | assumption)
                            have q120 : x9_2 < (l0.length : Int) := of_decide_eq_true (by first | (with_reducible assumption) | assumption)
                            obtain ⟨ad120, A120_0, c120_0, e120, hx120_0, hl120_0, hi120_0⟩ := at_L1 HR0.out x9_2 p120 q120
                            obtain rfl : ad118 = ad120 := (by injection e120)
                            have HR120_0 := Aside0.mk hi120_0
                            have HC120_0 := Aside0.mk hl120_0
                            clear hi120_0 hl120_0
                            replace p120 := eq_true p120
                            replace q120 := eq_true q120
                            have ea_ := Option.some.inj (hx118_0.symm.trans hx120_0)
                            injection ea_ with ea_ en_ ec_
                            subst ea_
                            subst ec_
                            clear en_
                            have p121 : 0 ≤ (a2 : Int) := of_decide_eq_true (by first | (with_reducible assumption) | assumption)
                            have q121 : a2 < ((rd_L1 l0 x9_2).length : Int) := of_decide_eq_true (by first | (with_reducible assumption) | assumption)
                            obtain ⟨ad121, e121, hx121_0⟩ := Kd.at_int HR120_0.out a2 p121 q121
                            cases e121
                            replace p121 := eq_true p121
                            replace q121 := eq_true q121
                            go_wp2
                            go_roundg k2
                            case measure => have := HK1.out; have := HK2.out; omega
                            case rel => exact ⟨(wrap64 (x9_2 + 1)), (by first | rfl | (simp; done) | (simp [*]; done)), H', ⟨by have := HK1.out; have := HK2.out; omega⟩, by repeat (first | exact Drawn0.refl _ | apply Drawn0.step)⟩
                        · rw [if_neg c23] at H
                          exact absurd H (by simp)
                      · rw [if_neg c22] at H
                        exact absurd H (by simp)
                    · rw [if_neg c21] at H
                      have c21b0 : ((rd (rd_L1 l0 x9_2) a1) == 1) = false := beq_eq_false_iff_ne.mpr c21
                      have c21b1 : ((rd (rd_L1 l0 x9_2) a1) != 1) = true := bne_iff_ne.mpr c21
                      have H' := Aside0.mk H
                      clear H
                      have p118 : 0 ≤ (x9_2 : Int) := of_decide_eq_true (by first | (with_reducible assumption) | assumption)
                      have q118 : x9_2 < (l0.length : Int) := of_decide_eq_true (by first | (with_reducible assumption) | assumption)
                      obtain ⟨ad118, A118_0, c118_0, e118, hx118_0, hl118_0, hi118_0⟩ := at_L1 HR0.out x9_2 p118 q118
                      cases e118
                      have HR118_0 := Aside0.mk hi118_0
                      have HC118_0 := Aside0.mk hl118_0
                      clear hi118_0 hl118_0
                      replace p118 := eq_true p118
                      replace q118 := eq_true q118
                      have p119 : 0 ≤ (a1 : Int) := of_decide_eq_true (by first | (with_reducible assumption) | assumption)
                      have q119 : a1 < ((rd_L1 l0 x9_2).length : Int) := of_decide_eq_true (by first | (with_reducible assumption) | assumption)
                      obtain ⟨ad119, e119, hx119_0⟩ := Kd.at_int HR118_0.out a1 p119 q119
                      cases e119
                      replace p119 := eq_true p119
                      replace q119 := eq_true q119
                      go_wp2
                      go_roundg k2
                      case measure => have := HK1.out; have := HK2.out; omega
                      case rel => exact ⟨(wrap64 (x9_2 + 1)), (by first | rfl | (simp; done) | (simp [*]; done)), H', ⟨by have := HK1.out; have := HK2.out; omega⟩, by repeat (first | exact Drawn0.refl _ | apply Drawn0.step)⟩
                  · rw [if_neg c20] at H
                    exact absurd H (by simp)
                · rw [if_neg c19] at H
                  exact absurd H (by simp)
              · rw [if_neg c18] at H
                exact absurd H (by simp)
            · rw [if_neg c17] at H
              have c17b0 : decide (x9_2 < (l0.length : Int)) = false := decide_eq_false c17
              clear c17
              obtain rfl := Option.some.inj H
              go_wp2
              go_ret
              exact ⟨by first | rfl | (simp; done) | (simp [*]; done), by repeat (first | exact Drawn0.refl _ | apply Drawn0.step)⟩
end Go.Proofs.Ytjoadckkdophnaa.Print
end
section
namespace Go.Proofs.Ytjoadckkdophnaa.Print
open Go.RowKit Go.Proofs.YtjoadckkdophnaaW.PrintWords Go.Proofs.YtjoadckkdophnaaW.PrintLast Go.Proofs.YtjoadckkdophnaaW.PrintMore
attribute [local go_sem] max2_int min2_int max_two min_two max_three min_three max_four min_four   -- for this text's walks alone
set_option linter.unusedVariables false
set_option linter.unusedSimpArgs false
def spec_l1In.f (a0 : Int) (a1 : Int) (a2 : Int) : Option (Bool) := if a0 ≥ a1 then (some (decide (a0 ≤ a2))) else (some false)
set_option maxHeartbeats 8000000 in
set_option maxRecDepth 100000 in
theorem spec_l1In.calls (a0 : Int) (a1 : Int) (a2 : Int) (r : Bool) (w : World) (h : spec_l1In.f a0 a1 a2 = some r) :
    Calls Try.prog 77 #[.int .i64 a0, .int .i64 a1, .int .i64 a2] w fun e w' => e = .returned (.bool r) ∧ Drawn0 w w' := by
  have H : (if a0 ≥ a1 then (some (decide (a0 ≤ a2))) else (some false)) = some r := h
  clear h
  by_cases c4 : a0 ≥ a1
  · rw [if_pos c4] at H
    have c4b0 : decide (a1 ≤ a0) = true := decide_eq_true c4
    clear c4
    obtain rfl := Option.some.inj H
    go_enter Try.func77, Try.ntmps77
    go_wp2
    go_ret
    exact ⟨by first | rfl | (simp; done) | (simp [*]; done), by repeat (first | exact Drawn0.refl _ | apply Drawn0.step)⟩
  · rw [if_neg c4] at H
    have c4b0 : decide (a1 ≤ a0) = false := decide_eq_false c4
    clear c4
    obtain rfl := Option.some.inj H
    go_enter Try.func77, Try.ntmps77
    go_wp2
    go_ret
    exact ⟨by first | rfl | (simp; done) | (simp [*]; done), by repeat (first | exact Drawn0.refl _ | apply Drawn0.step)⟩
end Go.Proofs.Ytjoadckkdophnaa.Print
end
section
namespace Go.Proofs.Ytjoadckkdophnaa.Print
open Go.RowKit Go.Proofs.YtjoadckkdophnaaW.PrintWords Go.Proofs.YtjoadckkdophnaaW.PrintLast Go.Proofs.YtjoadckkdophnaaW.PrintMore
attribute [local go_sem] max2_int min2_int max_two min_two max_three min_three max_four min_four   -- for this text's walks alone
set_option linter.unusedVariables false
set_option linter.unusedSimpArgs false
mutual
def spec_l1Join.l0 : Nat → List (List Int) → Int → Int → Int → Int → Option (Int)
  | 0, _, _, _, _, _ => none
  | k + 1, x0, x1, x2, x7, x8 => if x8 < (x0.length : Int) then (if 0 ≤ x1 then (if x1 < (x0.length : Int) then (if 0 ≤ x8 then (if x8 < ((rd_L1 x0 x1).length : Int) then (if (rd (rd_L1 x0 x1) x8) = 1 then (if 0 ≤ x2 then (if x2 < (x0.length : Int) then (if x8 < ((rd_L1 x0 x2).length : Int) then (if (rd (rd_L1 x0 x2) x8) = 1 then (if x7 < 0 then (spec_l1Join.l0 k x0 x1 x2 x8 (wrap64 (x8 + 1))) else (if 0 ≤ x7 then (if x7 < ((rd_L1 x0 x8).length : Int) then (if (rd (rd_L1 x0 x8) x7) = 1 then (spec_l1Join.l0 k x0 x1 x2 x8 (wrap64 (x8 + 1))) else (spec_l1Join.l0 k x0 x1 x2 x7 (wrap64 (x8 + 1)))) else (none)) else (none))) else (spec_l1Join.l0 k x0 x1 x2 x7 (wrap64 (x8 + 1)))) else (none)) else (none)) else (none)) else (spec_l1Join.l0 k x0 x1 x2 x7 (wrap64 (x8 + 1)))) else (none)) else (none)) else (none)) else (none)) else (spec_l1Join.l1 k x0 x1 x2 x7 0)
def spec_l1Join.l1 : Nat → List (List Int) → Int → Int → Int → Int → Option (Int)
  | 0, _, _, _, _, _ => none
  | k + 1, x0, x1, x2, x7, x9 => if x9 < (x0.length : Int) then (if 0 ≤ x1 then (if x1 < (x0.length : Int) then (if 0 ≤ x9 then (if x9 < ((rd_L1 x0 x1).length : Int) then (if (rd (rd_L1 x0 x1) x9) = 1 then (if 0 ≤ x2 then (if x2 < (x0.length : Int) then (if x9 < ((rd_L1 x0 x2).length : Int) then (if (rd (rd_L1 x0 x2) x9) = 1 then (if 0 ≤ x7 then (if x7 < (x0.length : Int) then (if x9 < ((rd_L1 x0 x7).length : Int) then (if (rd (rd_L1 x0 x7) x9) = 0 then (some (-1)) else (spec_l1Join.l1 k x0 x1 x2 x7 (wrap64 (x9 + 1)))) else (none)) else (none)) else (none)) else (spec_l1Join.l1 k x0 x1 x2 x7 (wrap64 (x9 + 1)))) else (none)) else (none)) else (none)) else (spec_l1Join.l1 k x0 x1 x2 x7 (wrap64 (x9 + 1)))) else (none)) else (none)) else (none)) else (none)) else (some x7)
end
def spec_l1Join.f (k : Nat) (l0 : List (List Int)) (a1 : Int) (a2 : Int) : Option (Int) := spec_l1Join.l0 k l0 a1 a2 (-1) 0
set_option maxHeartbeats 8000000 in
set_option maxRecDepth 100000 in
theorem spec_l1Join.calls (k : Nat) (A0 : Option Addr) (c0 : Nat) (l0 : List (List Int)) (a1 : Int) (a2 : Int) (r : Int) (w : World) (hr0 : Kd.C (Kd.slice 3 (Kd.int .i64)) w A0 l0.length l0) (hc0 : l0.length ≤ c0) (h : spec_l1Join.f k l0 a1 a2 = some r) :
    Calls Try.prog 51 #[.slice A0 l0.length c0, .int .i64 a1, .int .i64 a2] w fun e w' => e = .returned (.int .i64 r) ∧ Drawn0 w w' := by
  have HR0 := Aside0.mk hr0
  have HC0 := Aside0.mk hc0
  clear hr0 hc0
  have H : (spec_l1Join.l0 k l0 a1 a2 (-1) 0) = some r := h
  clear h
  have H' := Aside0.mk H
  clear H
  go_enter Try.func51, Try.ntmps51
  go_wp2
  go_loopg [7, 8] k (fun kq v7 v8 w' => ∃ (x7_1 : Int) (x8_1 : Int), v7 = .int .i64 x7_1 ∧ v8 = .int .i64 x8_1 ∧ Aside0 (spec_l1Join.l0 kq l0 a1 a2 x7_1 x8_1 = some r) ∧ Aside0 (kq ≤ k) ∧ Drawn0 w w')
  case atStart => exact ⟨((-1)), (0), (by first | rfl | (simp; done) | (simp [*]; done)), (by first | rfl | (simp; done) | (simp [*]; done)), H', ⟨Nat.le_refl _⟩, by repeat (first | exact Drawn0.refl _ | apply Drawn0.step)⟩
  case round =>
    clear H'
    try clear p2
    obtain ⟨x7_1, x8_1, rfl, rfl, HA, HK1, ⟨m1, rfl⟩⟩ := hrel
    cases gk with
    | zero => exact absurd HA.out (by simp [spec_l1Join.l0])
    | succ k1 =>
      have H := HA.out
      clear HA
      simp only [spec_l1Join.l0] at H
      by_cases c4 : x8_1 < (l0.length : Int)
      · rw [if_pos c4] at H
        have c4b0 : decide (x8_1 < (l0.length : Int)) = true := decide_eq_true c4
        clear c4
        by_cases c5 : 0 ≤ a1
        · rw [if_pos c5] at H
          have c5b0 : decide (0 ≤ a1) = true := decide_eq_true c5
          clear c5
          by_cases c6 : a1 < (l0.length : Int)
          · rw [if_pos c6] at H
            have c6b0 : decide (a1 < (l0.length : Int)) = true := decide_eq_true c6
            clear c6
            by_cases c7 : 0 ≤ x8_1
            · rw [if_pos c7] at H
              have c7b0 : decide (0 ≤ x8_1) = true := decide_eq_true c7
              clear c7
              by_cases c8 : x8_1 < ((rd_L1 l0 a1).length : Int)
              · rw [if_pos c8] at H
                have c8b0 : decide (x8_1 < ((rd_L1 l0 a1).length : Int)) = true := decide_eq_true c8
                clear c8
                by_cases c9 : (rd (rd_L1 l0 a1) x8_1) = 1
                · rw [if_pos c9] at H
                  have c9b0 : ((rd (rd_L1 l0 a1) x8_1) == 1) = true := beq_iff_eq.mpr c9
                  have c9b1 : ((rd (rd_L1 l0 a1) x8_1) != 1) = false := bne_eq_false_iff_eq.mpr c9
                  clear c9
                  by_cases c10 : 0 ≤ a2
                  · rw [if_pos c10] at H
                    have c10b0 : decide (0 ≤ a2) = true := decide_eq_true c10
                    clear c10
                    by_cases c11 : a2 < (l0.length : Int)
                    · rw [if_pos c11] at H
                      have c11b0 : decide (a2 < (l0.length : Int)) = true := decide_eq_true c11
                      clear c11
                      by_cases c12 : x8_1 < ((rd_L1 l0 a2).length : Int)
                      · rw [if_pos c12] at H
                        have c12b0 : decide (x8_1 < ((rd_L1 l0 a2).length : Int)) = true := decide_eq_true c12
                        clear c12
                        by_cases c13 : (rd (rd_L1 l0 a2) x8_1) = 1
                        · rw [if_pos c13] at H
                          have c13b0 : ((rd (rd_L1 l0 a2) x8_1) == 1) = true := beq_iff_eq.mpr c13
                          have c13b1 : ((rd (rd_L1 l0 a2) x8_1) != 1) = false := bne_eq_false_iff_eq.mpr c13
                          clear c13
                          by_cases c14 : x7_1 < 0
                          · rw [if_pos c14] at H
                            have c14b0 : decide (x7_1 < 0) = true := decide_eq_true c14
                            clear c14
                            have H' := Aside0.mk H
                            clear H
                            have p124 : 0 ≤ (a1 : Int) := of_decide_eq_true (by first | (with_reducible assumption) | assumption)
                            have q124 : a1 < (l0.length : Int) := of_decide_eq_true (by first | (with_reducible assumption) | assumption)
                            obtain ⟨ad124, A124_0, c124_0, e124, hx124_0, hl124_0, hi124_0⟩ := at_L1 HR0.out a1 p124 q124
                            cases e124
                            have HR124_0 := Aside0.mk hi124_0
                            have HC124_0 := Aside0.mk hl124_0
                            clear hi124_0 hl124_0
                            replace p124 := eq_true p124
                            replace q124 := eq_true q124
                            have p125 : 0 ≤ (x8_1 : Int) := of_decide_eq_true (by first | (with_reducible assumption) | assumption)
                            have q125 : x8_1 < ((rd_L1 l0 a1).length : Int) := of_decide_eq_true (by first | (with_reducible assumption) | assumption)
                            obtain ⟨ad125, e125, hx125_0⟩ := Kd.at_int HR124_0.out x8_1 p125 q125
                            cases e125
                            replace p125 := eq_true p125
                            replace q125 := eq_true q125
                            have p126 : 0 ≤ (a2 : Int) := of_decide_eq_true (by first | (with_reducible assumption) | assumption)
                            have q126 : a2 < (l0.length : Int) := of_decide_eq_true (by first | (with_reducible assumption) | assumption)
                            obtain ⟨ad126, A126_0, c126_0, e126, hx126_0, hl126_0, hi126_0⟩ := at_L1 HR0.out a2 p126 q126
                            obtain rfl : ad124 = ad126 := (by injection e126)
                            have HR126_0 := Aside0.mk hi126_0
                            have HC126_0 := Aside0.mk hl126_0
                            clear hi126_0 hl126_0
                            replace p126 := eq_true p126
                            replace q126 := eq_true q126
                            have p127 : 0 ≤ (x8_1 : Int) := of_decide_eq_true (by first | (with_reducible assumption) | assumption)
                            have q127 : x8_1 < ((rd_L1 l0 a2).length : Int) := of_decide_eq_true (by first | (with_reducible assumption) | assumption)
                            obtain ⟨ad127, e127, hx127_0⟩ := Kd.at_int HR126_0.out x8_1 p127 q127
                            cases e127
                            replace p127 := eq_true p127
                            replace q127 := eq_true q127
                            go_wp2
                            go_roundg k1
                            case measure => have := HK1.out; omega
                            case rel => exact ⟨(x8_1), (wrap64 (x8_1 + 1)), (by first | rfl | (simp; done) | (simp [*]; done)), (by first | rfl | (simp; done) | (simp [*]; done)), H', ⟨by have := HK1.out; omega⟩, by repeat (first | exact Drawn0.refl _ | apply Drawn0.step)⟩
                          · rw [if_neg c14] at H
                            have c14b0 : decide (x7_1 < 0) = false := decide_eq_false c14
                            clear c14
                            by_cases c15 : 0 ≤ x7_1
                            · rw [if_pos c15] at H
                              have c15b0 : decide (0 ≤ x7_1) = true := decide_eq_true c15
                              clear c15
                              by_cases c16 : x7_1 < ((rd_L1 l0 x8_1).length : Int)
                              · rw [if_pos c16] at H
                                have c16b0 : decide (x7_1 < ((rd_L1 l0 x8_1).length : Int)) = true := decide_eq_true c16
                                clear c16
                                by_cases c17 : (rd (rd_L1 l0 x8_1) x7_1) = 1
                                · rw [if_pos c17] at H
                                  have c17b0 : ((rd (rd_L1 l0 x8_1) x7_1) == 1) = true := beq_iff_eq.mpr c17
                                  have c17b1 : ((rd (rd_L1 l0 x8_1) x7_1) != 1) = false := bne_eq_false_iff_eq.mpr c17
                                  clear c17
                                  have H' := Aside0.mk H
                                  clear H
                                  have p124 : 0 ≤ (a1 : Int) := of_decide_eq_true (by first | (with_reducible assumption) | assumption)
                                  have q124 : a1 < (l0.length : Int) := of_decide_eq_true (by first | (with_reducible assumption) | assumption)
                                  obtain ⟨ad124, A124_0, c124_0, e124, hx124_0, hl124_0, hi124_0⟩ := at_L1 HR0.out a1 p124 q124
                                  cases e124
                                  have HR124_0 := Aside0.mk hi124_0
                                  have HC124_0 := Aside0.mk hl124_0
                                  clear hi124_0 hl124_0
                                  replace p124 := eq_true p124
                                  replace q124 := eq_true q124
                                  have p125 : 0 ≤ (x8_1 : Int) := of_decide_eq_true (by first | (with_reducible assumption) | assumption)
                                  have q125 : x8_1 < ((rd_L1 l0 a1).length : Int) := of_decide_eq_true (by first | (with_reducible assumption) | assumption)
                                  obtain ⟨ad125, e125, hx125_0⟩ := Kd.at_int HR124_0.out x8_1 p125 q125
                                  cases e125
                                  replace p125 := eq_true p125
                                  replace q125 := eq_true q125
                                  have p126 : 0 ≤ (a2 : Int) := of_decide_eq_true (by first | (with_reducible assumption) | assumption)
                                  have q126 : a2 < (l0.length : Int) := of_decide_eq_true (by first | (with_reducible assumption) | assumption)
                                  obtain ⟨ad126, A126_0, c126_0, e126, hx126_0, hl126_0, hi126_0⟩ := at_L1 HR0.out a2 p126 q126
                                  obtain rfl : ad124 = ad126 := (by injection e126)
                                  have HR126_0 := Aside0.mk hi126_0
                                  have HC126_0 := Aside0.mk hl126_0
                                  clear hi126_0 hl126_0
                                  replace p126 := eq_true p126
                                  replace q126 := eq_true q126
                                  have p127 : 0 ≤ (x8_1 : Int) := of_decide_eq_true (by first | (with_reducible assumption) | assumption)
                                  have q127 : x8_1 < ((rd_L1 l0 a2).length : Int) := of_decide_eq_true (by first | (with_reducible assumption) | assumption)
                                  obtain ⟨ad127, e127, hx127_0⟩ := Kd.at_int HR126_0.out x8_1 p127 q127
                                  cases e127
                                  replace p127 := eq_true p127
                                  replace q127 := eq_true q127
                                  have p128 : 0 ≤ (x8_1 : Int) := of_decide_eq_true (by first | (with_reducible assumption) | assumption)
                                  have q128 : x8_1 < (l0.length : Int) := of_decide_eq_true (by first | (with_reducible assumption) | assumption)
                                  obtain ⟨ad128, A128_0, c128_0, e128, hx128_0, hl128_0, hi128_0⟩ := at_L1 HR0.out x8_1 p128 q128
                                  obtain rfl : ad124 = ad128 := (by injection e128)
                                  have HR128_0 := Aside0.mk hi128_0
                                  have HC128_0 := Aside0.mk hl128_0
                                  clear hi128_0 hl128_0
                                  replace p128 := eq_true p128
                                  replace q128 := eq_true q128
                                  have p129 : 0 ≤ (x7_1 : Int) := of_decide_eq_true (by first | (with_reducible assumption) | assumption)
                                  have q129 : x7_1 < ((rd_L1 l0 x8_1).length : Int) := of_decide_eq_true (by first | (with_reducible assumption) | assumption)
                                  obtain ⟨ad129, e129, hx129_0⟩ := Kd.at_int HR128_0.out x7_1 p129 q129
                                  cases e129
                                  replace p129 := eq_true p129
                                  replace q129 := eq_true q129
                                  go_wp2
                                  go_roundg k1
                                  case measure => have := HK1.out; omega
                                  case rel => exact ⟨(x8_1), (wrap64 (x8_1 + 1)), (by first | rfl | (simp; done) | (simp [*]; done)), (by first | rfl | (simp; done) | (simp [*]; done)), H', ⟨by have := HK1.out; omega⟩, by repeat (first | exact Drawn0.refl _ | apply Drawn0.step)⟩
                                · rw [if_neg c17] at H
                                  have c17b0 : ((rd (rd_L1 l0 x8_1) x7_1) == 1) = false := beq_eq_false_iff_ne.mpr c17
                                  have c17b1 : ((rd (rd_L1 l0 x8_1) x7_1) != 1) = true := bne_iff_ne.mpr c17
                                  have H' := Aside0.mk H
                                  clear H
                                  have p124 : 0 ≤ (a1 : Int) := of_decide_eq_true (by first | (with_reducible assumption) | assumption)
                                  have q124 : a1 < (l0.length : Int) := of_decide_eq_true (by first | (with_reducible assumption) | assumption)
                                  obtain ⟨ad124, A124_0, c124_0, e124, hx124_0, hl124_0, hi124_0⟩ := at_L1 HR0.out a1 p124 q124
                                  cases e124
                                  have HR124_0 := Aside0.mk hi124_0
                                  have HC124_0 := Aside0.mk hl124_0
                                  clear hi124_0 hl124_0
                                  replace p124 := eq_true p124
                                  replace q124 := eq_true q124
                                  have p125 : 0 ≤ (x8_1 : Int) := of_decide_eq_true (by first | (with_reducible assumption) | assumption)
                                  have q125 : x8_1 < ((rd_L1 l0 a1).length : Int) := of_decide_eq_true (by first | (with_reducible assumption) | assumption)
                                  obtain ⟨ad125, e125, hx125_0⟩ := Kd.at_int HR124_0.out x8_1 p125 q125
                                  cases e125
                                  replace p125 := eq_true p125
                                  replace q125 := eq_true q125
                                  have p126 : 0 ≤ (a2 : Int) := of_decide_eq_true (by first | (with_reducible assumption) | assumption)
                                  have q126 : a2 < (l0.length : Int) := of_decide_eq_true (by first | (with_reducible assumption) | assumption)
                                  obtain ⟨ad126, A126_0, c126_0, e126, hx126_0, hl126_0, hi126_0⟩ := at_L1 HR0.out a2 p126 q126
                                  obtain rfl : ad124 = ad126 := (by injection e126)
                                  have HR126_0 := Aside0.mk hi126_0
                                  have HC126_0 := Aside0.mk hl126_0
                                  clear hi126_0 hl126_0
                                  replace p126 := eq_true p126
                                  replace q126 := eq_true q126
                                  have p127 : 0 ≤ (x8_1 : Int) := of_decide_eq_true (by first | (with_reducible assumption) | assumption)
                                  have q127 : x8_1 < ((rd_L1 l0 a2).length : Int) := of_decide_eq_true (by first | (with_reducible assumption) | assumption)
                                  obtain ⟨ad127, e127, hx127_0⟩ := Kd.at_int HR126_0.out x8_1 p127 q127
                                  cases e127
                                  replace p127 := eq_true p127
                                  replace q127 := eq_true q127
                                  have p128 : 0 ≤ (x8_1 : Int) := of_decide_eq_true (by first | (with_reducible assumption) | assumption)
                                  have q128 : x8_1 < (l0.length : Int) := of_decide_eq_true (by first | (with_reducible assumption) | assumption)
                                  obtain ⟨ad128, A128_0, c128_0, e128, hx128_0, hl128_0, hi128_0⟩ := at_L1 HR0.out x8_1 p128 q128
                                  obtain rfl : ad124 = ad128 := (by injection e128)
                                  have HR128_0 := Aside0.mk hi128_0
                                  have HC128_0 := Aside0.mk hl128_0
                                  clear hi128_0 hl128_0
                                  replace p128 := eq_true p128
                                  replace q128 := eq_true q128
                                  have p129 : 0 ≤ (x7_1 : Int) := of_decide_eq_true (by first | (with_reducible assumption) | assumption)
                                  have q129 : x7_1 < ((rd_L1 l0 x8_1).length : Int) := of_decide_eq_true (by first | (with_reducible assumption) | assumption)
                                  obtain ⟨ad129, e129, hx129_0⟩ := Kd.at_int HR128_0.out x7_1 p129 q129
                                  cases e129
                                  replace p129 := eq_true p129
                                  replace q129 := eq_true q129
                                  go_wp2
                                  go_roundg k1
                                  case measure => have := HK1.out; omega
                                  case rel => exact ⟨(x7_1), (wrap64 (x8_1 + 1)), (by first | rfl | (simp; done) | (simp [*]; done)), (by first | rfl | (simp; done) | (simp [*]; done)), H', ⟨by have := HK1.out; omega⟩, by repeat (first | exact Drawn0.refl _ | apply Drawn0.step)⟩
                              · rw [if_neg c16] at H
                                exact absurd H (by simp)
                            · rw [if_neg c15] at H
                              exact absurd H (by simp)
                        · rw [if_neg c13] at H
                          have c13b0 : ((rd (rd_L1 l0 a2) x8_1) == 1) = false := beq_eq_false_iff_ne.mpr c13
                          have c13b1 : ((rd (rd_L1 l0 a2) x8_1) != 1) = true := bne_iff_ne.mpr c13
                          have H' := Aside0.mk H
                          clear H
                          have p124 : 0 ≤ (a1 : Int) := of_decide_eq_true (by first | (with_reducible assumption) | assumption)
                          have q124 : a1 < (l0.length : Int) := of_decide_eq_true (by first | (with_reducible assumption) | assumption)
                          obtain ⟨ad124, A124_0, c124_0, e124, hx124_0, hl124_0, hi124_0⟩ := at_L1 HR0.out a1 p124 q124
                          cases e124
                          have HR124_0 := Aside0.mk hi124_0
                          have HC124_0 := Aside0.mk hl124_0
                          clear hi124_0 hl124_0
                          replace p124 := eq_true p124
                          replace q124 := eq_true q124
                          have p125 : 0 ≤ (x8_1 : Int) := of_decide_eq_true (by first | (with_reducible assumption) | assumption)
                          have q125 : x8_1 < ((rd_L1 l0 a1).length : Int) := of_decide_eq_true (by first | (with_reducible assumption) | assumption)
                          obtain ⟨ad125, e125, hx125_0⟩ := Kd.at_int HR124_0.out x8_1 p125 q125
                          cases e125
                          replace p125 := eq_true p125
                          replace q125 := eq_true q125
                          have p126 : 0 ≤ (a2 : Int) := of_decide_eq_true (by first | (with_reducible assumption) | assumption)
                          have q126 : a2 < (l0.length : Int) := of_decide_eq_true (by first | (with_reducible assumption) | assumption)
                          obtain ⟨ad126, A126_0, c126_0, e126, hx126_0, hl126_0, hi126_0⟩ := at_L1 HR0.out a2 p126 q126
                          obtain rfl : ad124 = ad126 := (by injection e126)
                          have HR126_0 := Aside0.mk hi126_0
                          have HC126_0 := Aside0.mk hl126_0
                          clear hi126_0 hl126_0
                          replace p126 := eq_true p126
                          replace q126 := eq_true q126
                          have p127 : 0 ≤ (x8_1 : Int) := of_decide_eq_true (by first | (with_reducible assumption) | assumption)
                          have q127 : x8_1 < ((rd_L1 l0 a2).length : Int) := of_decide_eq_true (by first | (with_reducible assumption) | assumption)
                          obtain ⟨ad127, e127, hx127_0⟩ := Kd.at_int HR126_0.out x8_1 p127 q127
                          cases e127
                          replace p127 := eq_true p127
                          replace q127 := eq_true q127
                          go_wp2
                          go_roundg k1
                          case measure => have := HK1.out; omega
                          case rel => exact ⟨(x7_1), (wrap64 (x8_1 + 1)), (by first | rfl | (simp; done) | (simp [*]; done)), (by first | rfl | (simp; done) | (simp [*]; done)), H', ⟨by have := HK1.out; omega⟩, by repeat (first | exact Drawn0.refl _ | apply Drawn0.step)⟩
                      · rw [if_neg c12] at H
                        exact absurd H (by simp)
                    · rw [if_neg c11] at H
                      exact absurd H (by simp)
                  · rw [if_neg c10] at H
                    exact absurd H (by simp)
                · rw [if_neg c9] at H
                  have c9b0 : ((rd (rd_L1 l0 a1) x8_1) == 1) = false := beq_eq_false_iff_ne.mpr c9
                  have c9b1 : ((rd (rd_L1 l0 a1) x8_1) != 1) = true := bne_iff_ne.mpr c9
                  have H' := Aside0.mk H
                  clear H
                  have p124 : 0 ≤ (a1 : Int) := of_decide_eq_true (by first | (with_reducible assumption) | assumption)
                  have q124 : a1 < (l0.length : Int) := of_decide_eq_true (by first | (with_reducible assumption) | assumption)
                  obtain ⟨ad124, A124_0, c124_0, e124, hx124_0, hl124_0, hi124_0⟩ := at_L1 HR0.out a1 p124 q124
                  cases e124
                  have HR124_0 := Aside0.mk hi124_0
                  have HC124_0 := Aside0.mk hl124_0
                  clear hi124_0 hl124_0
                  replace p124 := eq_true p124
                  replace q124 := eq_true q124
                  have p125 : 0 ≤ (x8_1 : Int) := of_decide_eq_true (by first | (with_reducible assumption) | assumption)
                  have q125 : x8_1 < ((rd_L1 l0 a1).length : Int) := of_decide_eq_true (by first | (with_reducible assumption) | assumption)
                  obtain ⟨ad125, e125, hx125_0⟩ := Kd.at_int HR124_0.out x8_1 p125 q125
                  cases e125
                  replace p125 := eq_true p125
                  replace q125 := eq_true q125
                  go_wp2
                  go_roundg k1
                  case measure => have := HK1.out; omega
                  case rel => exact ⟨(x7_1), (wrap64 (x8_1 + 1)), (by first | rfl | (simp; done) | (simp [*]; done)), (by first | rfl | (simp; done) | (simp [*]; done)), H', ⟨by have := HK1.out; omega⟩, by repeat (first | exact Drawn0.refl _ | apply Drawn0.step)⟩
              · rw [if_neg c8] at H
                exact absurd H (by simp)
            · rw [if_neg c7] at H
              exact absurd H (by simp)
          · rw [if_neg c6] at H
            exact absurd H (by simp)
        · rw [if_neg c5] at H
          exact absurd H (by simp)
      · rw [if_neg c4] at H
        have c4b0 : decide (x8_1 < (l0.length : Int)) = false := decide_eq_false c4
        clear c4
        have H' := Aside0.mk H
        clear H
        go_wp2
        go_loopg [9] k1 (fun kq v9 w' => ∃ (x9_2 : Int), v9 = .int .i64 x9_2 ∧ Aside0 (spec_l1Join.l1 kq l0 a1 a2 x7_1 x9_2 = some r) ∧ Aside0 (kq ≤ k1) ∧ Drawn0 w w')
        case atStart => exact ⟨(0), (by first | rfl | (simp; done) | (simp [*]; done)), H', ⟨Nat.le_refl _⟩, by repeat (first | exact Drawn0.refl _ | apply Drawn0.step)⟩
        case round =>
          clear H'
          try clear c1
          try clear p1
          try clear q1
          try clear hx1
          try clear p2
          try clear c4
          try clear c4b0
          try clear c5
          try clear c5b0
          try clear c6
          try clear c6b0
          try clear p6
          try clear c7
          try clear c7b0
          try clear c8
          try clear c8b0
          try clear c9
          try clear c9b0
          try clear c9b1
          try clear c10
          try clear c10b0
          try clear c11
          try clear c11b0
          try clear c12
          try clear c12b0
          try clear p12
          try clear q12
          try clear hx12
          try clear c13
          try clear c13b0
          try clear c13b1
          try clear c14
          try clear c14b0
          try clear c15
          try clear c15b0
          try clear c16
          try clear c16b0
          try clear c17
          try clear c17b0
          try clear c17b1
          try clear hx124_0
          try clear hx125_0
          try clear hx126_0
          try clear hx127_0
          try clear hx128_0
          try clear hx129_0
          try clear p124
          try clear p125
          try clear p126
          try clear p127
          try clear p128
          try clear p129
          try clear p2
          try clear q124
          try clear q125
          try clear q126
          try clear q127
          try clear q128
          try clear q129
          obtain ⟨x9_2, rfl, HA, HK2, ⟨m2, rfl⟩⟩ := hrel
          cases gk with
          | zero => exact absurd HA.out (by simp [spec_l1Join.l1])
          | succ k2 =>
            have H := HA.out
            clear HA
            simp only [spec_l1Join.l1] at H
            by_cases c18 : x9_2 < (l0.length : Int)
            · rw [if_pos c18] at H
              have c18b0 : decide (x9_2 < (l0.length : Int)) = true := decide_eq_true c18
              clear c18
              by_cases c19 : 0 ≤ a1
              · rw [if_pos c19] at H
                have c19b0 : decide (0 ≤ a1) = true := decide_eq_true c19
                clear c19
                by_cases c20 : a1 < (l0.length : Int)
                · rw [if_pos c20] at H
                  have c20b0 : decide (a1 < (l0.length : Int)) = true := decide_eq_true c20
                  clear c20
                  by_cases c21 : 0 ≤ x9_2
                  · rw [if_pos c21] at H
                    have c21b0 : decide (0 ≤ x9_2) = true := decide_eq_true c21
                    clear c21
                    by_cases c22 : x9_2 < ((rd_L1 l0 a1).length : Int)
                    · rw [if_pos c22] at H
                      have c22b0 : decide (x9_2 < ((rd_L1 l0 a1).length : Int)) = true := decide_eq_true c22
                      clear c22
                      by_cases c23 : (rd (rd_L1 l0 a1) x9_2) = 1
                      · rw [if_pos c23] at H
                        have c23b0 : ((rd (rd_L1 l0 a1) x9_2) == 1) = true := beq_iff_eq.mpr c23
                        have c23b1 : ((rd (rd_L1 l0 a1) x9_2) != 1) = false := bne_eq_false_iff_eq.mpr c23
                        clear c23
                        by_cases c24 : 0 ≤ a2
                        · rw [if_pos c24] at H
                          have c24b0 : decide (0 ≤ a2) = true := decide_eq_true c24
                          clear c24
                          by_cases c25 : a2 < (l0.length : Int)
                          · rw [if_pos c25] at H
                            have c25b0 : decide (a2 < (l0.length : Int)) = true := decide_eq_true c25
                            clear c25
                            by_cases c26 : x9_2 < ((rd_L1 l0 a2).length : Int)
                            · rw [if_pos c26] at H
                              have c26b0 : decide (x9_2 < ((rd_L1 l0 a2).length : Int)) = true := decide_eq_true c26
                              clear c26
                              by_cases c27 : (rd (rd_L1 l0 a2) x9_2) = 1
                              · rw [if_pos c27] at H
                                have c27b0 : ((rd (rd_L1 l0 a2) x9_2) == 1) = true := beq_iff_eq.mpr c27
                                have c27b1 : ((rd (rd_L1 l0 a2) x9_2) != 1) = false := bne_eq_false_iff_eq.mpr c27
                                clear c27
                                by_cases c28 : 0 ≤ x7_1
                                · rw [if_pos c28] at H
                                  have c28b0 : decide (0 ≤ x7_1) = true := decide_eq_true c28
                                  clear c28
                                  by_cases c29 : x7_1 < (l0.length : Int)
                                  · rw [if_pos c29] at H
                                    have c29b0 : decide (x7_1 < (l0.length : Int)) = true := decide_eq_true c29
                                    clear c29
                                    by_cases c30 : x9_2 < ((rd_L1 l0 x7_1).length : Int)
                                    · rw [if_pos c30] at H
                                      have c30b0 : decide (x9_2 < ((rd_L1 l0 x7_1).length : Int)) = true := decide_eq_true c30
                                      clear c30
                                      by_cases c31 : (rd (rd_L1 l0 x7_1) x9_2) = 0
                                      · rw [if_pos c31] at H
                                        have c31b0 : ((rd (rd_L1 l0 x7_1) x9_2) == 0) = true := beq_iff_eq.mpr c31
                                        have c31b1 : ((rd (rd_L1 l0 x7_1) x9_2) != 0) = false := bne_eq_false_iff_eq.mpr c31
                                        clear c31
                                        obtain rfl := Option.some.inj H
                                        have p130 : 0 ≤ (a1 : Int) := of_decide_eq_true (by first | (with_reducible assumption) | assumption)
                                        have q130 : a1 < (l0.length : Int) := of_decide_eq_true (by first | (with_reducible assumption) | assumption)
                                        obtain ⟨ad130, A130_0, c130_0, e130, hx130_0, hl130_0, hi130_0⟩ := at_L1 HR0.out a1 p130 q130
                                        cases e130
                                        have HR130_0 := Aside0.mk hi130_0
                                        have HC130_0 := Aside0.mk hl130_0
                                        clear hi130_0 hl130_0
                                        replace p130 := eq_true p130
                                        replace q130 := eq_true q130
                                        have p131 : 0 ≤ (x9_2 : Int) := of_decide_eq_true (by first | (with_reducible assumption) | assumption)
                                        have q131 : x9_2 < ((rd_L1 l0 a1).length : Int) := of_decide_eq_true (by first | (with_reducible assumption) | assumption)
                                        obtain ⟨ad131, e131, hx131_0⟩ := Kd.at_int HR130_0.out x9_2 p131 q131
                                        cases e131
                                        replace p131 := eq_true p131
                                        replace q131 := eq_true q131
                                        have p132 : 0 ≤ (a2 : Int) := of_decide_eq_true (by first | (with_reducible assumption) | assumption)
                                        have q132 : a2 < (l0.length : Int) := of_decide_eq_true (by first | (with_reducible assumption) | assumption)
                                        obtain ⟨ad132, A132_0, c132_0, e132, hx132_0, hl132_0, hi132_0⟩ := at_L1 HR0.out a2 p132 q132
                                        obtain rfl : ad130 = ad132 := (by injection e132)
                                        have HR132_0 := Aside0.mk hi132_0
                                        have HC132_0 := Aside0.mk hl132_0
                                        clear hi132_0 hl132_0
                                        replace p132 := eq_true p132
                                        replace q132 := eq_true q132
                                        have p133 : 0 ≤ (x9_2 : Int) := of_decide_eq_true (by first | (with_reducible assumption) | assumption)
                                        have q133 : x9_2 < ((rd_L1 l0 a2).length : Int) := of_decide_eq_true (by first | (with_reducible assumption) | assumption)
                                        obtain ⟨ad133, e133, hx133_0⟩ := Kd.at_int HR132_0.out x9_2 p133 q133
                                        cases e133
                                        replace p133 := eq_true p133
                                        replace q133 := eq_true q133
                                        have p134 : 0 ≤ (x7_1 : Int) := of_decide_eq_true (by first | (with_reducible assumption) | assumption)
                                        have q134 : x7_1 < (l0.length : Int) := of_decide_eq_true (by first | (with_reducible assumption) | assumption)
                                        obtain ⟨ad134, A134_0, c134_0, e134, hx134_0, hl134_0, hi134_0⟩ := at_L1 HR0.out x7_1 p134 q134
                                        obtain rfl : ad130 = ad134 := (by injection e134)
                                        have HR134_0 := Aside0.mk hi134_0
                                        have HC134_0 := Aside0.mk hl134_0
                                        clear hi134_0 hl134_0
                                        replace p134 := eq_true p134
                                        replace q134 := eq_true q134
                                        have p135 : 0 ≤ (x9_2 : Int) := of_decide_eq_true (by first | (with_reducible assumption) | assumption)
                                        have q135 : x9_2 < ((rd_L1 l0 x7_1).length : Int) := of_decide_eq_true (by first | (with_reducible assumption) | assumption)
                                        obtain ⟨ad135, e135, hx135_0⟩ := Kd.at_int HR134_0.out x9_2 p135 q135
                                        cases e135
                                        replace p135 := eq_true p135
                                        replace q135 := eq_true q135
                                        go_wp2
                                        go_ret
                                        exact ⟨by first | rfl | (simp; done) | (simp [*]; done), by repeat (first | exact Drawn0.refl _ | apply Drawn0.step)⟩
                                      · rw [if_neg c31] at H
                                        have c31b0 : ((rd (rd_L1 l0 x7_1) x9_2) == 0) = false := beq_eq_false_iff_ne.mpr c31
                                        have c31b1 : ((rd (rd_L1 l0 x7_1) x9_2) != 0) = true := bne_iff_ne.mpr c31
                                        have H' := Aside0.mk H
                                        clear H
                                        have p130 : 0 ≤ (a1 : Int) := of_decide_eq_true (by first | (with_reducible assumption) | assumption)
                                        have q130 : a1 < (l0.length : Int) := of_decide_eq_true (by first | (with_reducible assumption) | assumption)
                                        obtain ⟨ad130, A130_0, c130_0, e130, hx130_0, hl130_0, hi130_0⟩ := at_L1 HR0.out a1 p130 q130
                                        cases e130
                                        have HR130_0 := Aside0.mk hi130_0
                                        have HC130_0 := Aside0.mk hl130_0
                                        clear hi130_0 hl130_0
                                        replace p130 := eq_true p130
                                        replace q130 := eq_true q130
                                        have p131 : 0 ≤ (x9_2 : Int) := of_decide_eq_true (by first | (with_reducible assumption) | assumption)
                                        have q131 : x9_2 < ((rd_L1 l0 a1).length : Int) := of_decide_eq_true (by first | (with_reducible assumption) | assumption)
                                        obtain ⟨ad131, e131, hx131_0⟩ := Kd.at_int HR130_0.out x9_2 p131 q131
                                        cases e131
                                        replace p131 := eq_true p131
                                        replace q131 := eq_true q131
                                        have p132 : 0 ≤ (a2 : Int) := of_decide_eq_true (by first | (with_reducible assumption) | assumption)
                                        have q132 : a2 < (l0.length : Int) := of_decide_eq_true (by first | (with_reducible assumption) | assumption)
                                        obtain ⟨ad132, A132_0, c132_0, e132, hx132_0, hl132_0, hi132_0⟩ := at_L1 HR0.out a2 p132 q132
                                        obtain rfl : ad130 = ad132 := (by injection e132)
                                        have HR132_0 := Aside0.mk hi132_0
                                        have HC132_0 := Aside0.mk hl132_0
                                        clear hi132_0 hl132_0
                                        replace p132 := eq_true p132
                                        replace q132 := eq_true q132
                                        have p133 : 0 ≤ (x9_2 : Int) := of_decide_eq_true (by first | (with_reducible assumption) | assumption)
                                        have q133 : x9_2 < ((rd_L1 l0 a2).length : Int) := of_decide_eq_true (by first | (with_reducible assumption) | assumption)
                                        obtain ⟨ad133, e133, hx133_0⟩ := Kd.at_int HR132_0.out x9_2 p133 q133
                                        cases e133
                                        replace p133 := eq_true p133
                                        replace q133 := eq_true q133
                                        have p134 : 0 ≤ (x7_1 : Int) := of_decide_eq_true (by first | (with_reducible assumption) | assumption)
                                        have q134 : x7_1 < (l0.length : Int) := of_decide_eq_true (by first | (with_reducible assumption) | assumption)
                                        obtain ⟨ad134, A134_0, c134_0, e134, hx134_0, hl134_0, hi134_0⟩ := at_L1 HR0.out x7_1 p134 q134
                                        obtain rfl : ad130 = ad134 := (by injection e134)
                                        have HR134_0 := Aside0.mk hi134_0
                                        have HC134_0 := Aside0.mk hl134_0
                                        clear hi134_0 hl134_0
                                        replace p134 := eq_true p134
                                        replace q134 := eq_true q134
                                        have p135 : 0 ≤ (x9_2 : Int) := of_decide_eq_true (by first | (with_reducible assumption) | assumption)
                                        have q135 : x9_2 < ((rd_L1 l0 x7_1).length : Int) := of_decide_eq_true (by first | (with_reducible assumption) | assumption)
                                        obtain ⟨ad135, e135, hx135_0⟩ := Kd.at_int HR134_0.out x9_2 p135 q135
                                        cases e135
                                        replace p135 := eq_true p135
                                        replace q135 := eq_true q135
                                        go_wp2
                                        go_roundg k2
                                        case measure => have := HK1.out; have := HK2.out; omega
                                        case rel => exact ⟨(wrap64 (x9_2 + 1)), (by first | rfl | (simp; done) | (simp [*]; done)), H', ⟨by have := HK1.out; have := HK2.out; omega⟩, by repeat (first | exact Drawn0.refl _ | apply Drawn0.step)⟩
                                    · rw [if_neg c30] at H
                                      exact absurd H (by simp)
                                  · rw [if_neg c29] at H
                                    exact absurd H (by simp)
                                · rw [if_neg c28] at H
                                  exact absurd H (by simp)
                              · rw [if_neg c27] at H
                                have c27b0 : ((rd (rd_L1 l0 a2) x9_2) == 1) = false := beq_eq_false_iff_ne.mpr c27
                                have c27b1 : ((rd (rd_L1 l0 a2) x9_2) != 1) = true := bne_iff_ne.mpr c27
                                have H' := Aside0.mk H
                                clear H
                                have p130 : 0 ≤ (a1 : Int) := of_decide_eq_true (by first | (with_reducible assumption) | assumption)
                                have q130 : a1 < (l0.length : Int) := of_decide_eq_true (by first | (with_reducible assumption) | assumption)
                                obtain ⟨ad130, A130_0, c130_0, e130, hx130_0, hl130_0, hi130_0⟩ := at_L1 HR0.out a1 p130 q130
                                cases e130
                                have HR130_0 := Aside0.mk hi130_0
                                have HC130_0 := Aside0.mk hl130_0
                                clear hi130_0 hl130_0
                                replace p130 := eq_true p130
                                replace q130 := eq_true q130
                                have p131 : 0 ≤ (x9_2 : Int) := of_decide_eq_true (by first | (with_reducible assumption) | assumption)
                                have q131 : x9_2 < ((rd_L1 l0 a1).length : Int) := of_decide_eq_true (by first | (with_reducible assumption) | assumption)
                                obtain ⟨ad131, e131, hx131_0⟩ := Kd.at_int HR130_0.out x9_2 p131 q131
                                cases e131
                                replace p131 := eq_true p131
                                replace q131 := eq_true q131
                                have p132 : 0 ≤ (a2 : Int) := of_decide_eq_true (by first | (with_reducible assumption) | assumption)
                                have q132 : a2 < (l0.length : Int) := of_decide_eq_true (by first | (with_reducible assumption) | assumption)
                                obtain ⟨ad132, A132_0, c132_0, e132, hx132_0, hl132_0, hi132_0⟩ := at_L1 HR0.out a2 p132 q132
                                obtain rfl : ad130 = ad132 := (by injection e132)
                                have HR132_0 := Aside0.mk hi132_0
                                have HC132_0 := Aside0.mk hl132_0
                                clear hi132_0 hl132_0
                                replace p132 := eq_true p132
                                replace q132 := eq_true q132
                                have p133 : 0 ≤ (x9_2 : Int) := of_decide_eq_true (by first | (with_reducible assumption) | assumption)
                                have q133 : x9_2 < ((rd_L1 l0 a2).length : Int) := of_decide_eq_true (by first | (with_reducible assumption) | assumption)
                                obtain ⟨ad133, e133, hx133_0⟩ := Kd.at_int HR132_0.out x9_2 p133 q133
                                cases e133
                                replace p133 := eq_true p133
                                replace q133 := eq_true q133
                                go_wp2
                                go_roundg k2
                                case measure => have := HK1.out; have := HK2.out; omega
                                case rel => exact ⟨(wrap64 (x9_2 + 1)), (by first | rfl | (simp; done) | (simp [*]; done)), H', ⟨by have := HK1.out; have := HK2.out; omega⟩, by repeat (first | exact Drawn0.refl _ | apply Drawn0.step)⟩
                            · rw [if_neg c26] at H
                              exact absurd H (by simp)
                          · rw [if_neg c25] at H
                            exact absurd H (by simp)
                        · rw [if_neg c24] at H
                          exact absurd H (by simp)
                      · rw [if_neg c23] at H
                        have c23b0 : ((rd (rd_L1 l0 a1) x9_2) == 1) = false := beq_eq_false_iff_ne.mpr c23
                        have c23b1 : ((rd (rd_L1 l0 a1) x9_2) != 1) = true := bne_iff_ne.mpr c23
                        have H' := Aside0.mk H
                        clear H
                        have p130 : 0 ≤ (a1 : Int) := of_decide_eq_true (by first | (with_reducible assumption) | assumption)
                        have q130 : a1 < (l0.length : Int) := of_decide_eq_true (by first | (with_reducible assumption) | assumption)
                        obtain ⟨ad130, A130_0, c130_0, e130, hx130_0, hl130_0, hi130_0⟩ := at_L1 HR0.out a1 p130 q130
                        cases e130
                        have HR130_0 := Aside0.mk hi130_0
                        have HC130_0 := Aside0.mk hl130_0
                        clear hi130_0 hl130_0
                        replace p130 := eq_true p130
                        replace q130 := eq_true q130
                        have p131 : 0 ≤ (x9_2 : Int) := of_decide_eq_true (by first | (with_reducible assumption) | assumption)
                        have q131 : x9_2 < ((rd_L1 l0 a1).length : Int) := of_decide_eq_true (by first | (with_reducible assumption) | assumption)
                        obtain ⟨ad131, e131, hx131_0⟩ := Kd.at_int HR130_0.out x9_2 p131 q131
                        cases e131
                        replace p131 := eq_true p131
                        replace q131 := eq_true q131
                        go_wp2
                        go_roundg k2
                        case measure => have := HK1.out; have := HK2.out; omega
                        case rel => exact ⟨(wrap64 (x9_2 + 1)), (by first | rfl | (simp; done) | (simp [*]; done)), H', ⟨by have := HK1.out; have := HK2.out; omega⟩, by repeat (first | exact Drawn0.refl _ | apply Drawn0.step)⟩
                    · rw [if_neg c22] at H
                      exact absurd H (by simp)
                  · rw [if_neg c21] at H
                    exact absurd H (by simp)
                · rw [if_neg c20] at H
                  exact absurd H (by simp)
              · rw [if_neg c19] at H
                exact absurd H (by simp)
            · rw [if_neg c18] at H
              have c18b0 : decide (x9_2 < (l0.length : Int)) = false := decide_eq_false c18
              clear c18
              obtain rfl := Option.some.inj H
              go_wp2
              go_ret
              exact ⟨by first | rfl | (simp; done) | (simp [*]; done), by repeat (first | exact Drawn0.refl _ | apply Drawn0.step)⟩
end Go.Proofs.Ytjoadckkdophnaa.Print
end
section
namespace Go.Proofs.Ytjoadckkdophnaa.Print
open Go.RowKit Go.Proofs.YtjoadckkdophnaaW.PrintWords Go.Proofs.YtjoadckkdophnaaW.PrintLast Go.Proofs.YtjoadckkdophnaaW.PrintMore
attribute [local go_sem] max2_int min2_int max_two min_two max_three min_three max_four min_four   -- for this text's walks alone
set_option linter.unusedVariables false
set_option linter.unusedSimpArgs false
mutual
def spec_OrderOk.l0 : Nat → List (List Int) → Int → Int → Option (Bool)
  | 0, _, _, _ => none
  | k + 1, x0, x3, x4 => if x4 < x3 then (if 0 ≤ x4 then (if x4 < (x0.length : Int) then (if ((rd_L1 x0 x4).length : Int) = x3 then (spec_OrderOk.l1 k x0 x3 x4 0) else (some false)) else (none)) else (none)) else (spec_OrderOk.l2 k x0 x3 0)
def spec_OrderOk.l1 : Nat → List (List Int) → Int → Int → Int → Option (Bool)
  | 0, _, _, _, _ => none
  | k + 1, x0, x3, x4, x5 => if x5 < x3 then (if 0 ≤ x4 then (if x4 < (x0.length : Int) then (if 0 ≤ x5 then (if x5 < ((rd_L1 x0 x4).length : Int) then ((spec_l1In.f (rd (rd_L1 x0 x4) x5) 0 1).bind fun t140 => (if t140 = true then (spec_OrderOk.l1 k x0 x3 x4 (wrap64 (x5 + 1))) else (some false))) else (none)) else (none)) else (none)) else (none)) else (spec_OrderOk.l0 k x0 x3 (wrap64 (x4 + 1)))
def spec_OrderOk.l2 : Nat → List (List Int) → Int → Int → Option (Bool)
  | 0, _, _, _ => none
  | k + 1, x0, x3, x6 => if x6 < x3 then (spec_OrderOk.l3 k x0 x3 x6 0) else (some true)
def spec_OrderOk.l3 : Nat → List (List Int) → Int → Int → Int → Option (Bool)
  | 0, _, _, _, _ => none
  | k + 1, x0, x3, x6, x7 => if x7 < x3 then (if x6 = x7 then (if 0 ≤ x6 then (if x6 < (x0.length : Int) then (if 0 ≤ x7 then (if x7 < ((rd_L1 x0 x6).length : Int) then (if (rd (rd_L1 x0 x6) x7) = 0 then (spec_OrderOk.j4 k x0 x3 x6 x7 true) else (spec_OrderOk.j4 k x0 x3 x6 x7 false)) else (none)) else (none)) else (none)) else (none)) else (if 0 ≤ x6 then (if x6 < (x0.length : Int) then (if 0 ≤ x7 then (if x7 < ((rd_L1 x0 x6).length : Int) then (if (rd (rd_L1 x0 x6) x7) = 1 then (if x7 < (x0.length : Int) then (if x6 < ((rd_L1 x0 x7).length : Int) then (spec_OrderOk.j4 k x0 x3 x6 x7 ((rd (rd_L1 x0 x7) x6) == 1)) else (none)) else (none)) else (spec_OrderOk.j4 k x0 x3 x6 x7 false)) else (none)) else (none)) else (none)) else (none))) else (spec_OrderOk.l2 k x0 x3 (wrap64 (x6 + 1)))
def spec_OrderOk.j4 : Nat → List (List Int) → Int → Int → Int → Bool → Option (Bool)
  | 0, _, _, _, _, _ => none
  | k + 1, x0, x3, x6, x7, x87 => if x87 = true then (some false) else (spec_OrderOk.l4 k x0 x3 x6 x7 0)
def spec_OrderOk.l4 : Nat → List (List Int) → Int → Int → Int → Int → Option (Bool)
  | 0, _, _, _, _, _ => none
  | k + 1, x0, x3, x6, x7, x8 => if x8 < x3 then (if 0 ≤ x6 then (if x6 < (x0.length : Int) then (if 0 ≤ x7 then (if x7 < ((rd_L1 x0 x6).length : Int) then (if (rd (rd_L1 x0 x6) x7) = 1 then (if x7 < (x0.length : Int) then (if 0 ≤ x8 then (if x8 < ((rd_L1 x0 x7).length : Int) then (if (rd (rd_L1 x0 x7) x8) = 1 then (if x8 < ((rd_L1 x0 x6).length : Int) then (if (rd (rd_L1 x0 x6) x8) = 0 then (some false) else (spec_OrderOk.l4 k x0 x3 x6 x7 (wrap64 (x8 + 1)))) else (none)) else (spec_OrderOk.l4 k x0 x3 x6 x7 (wrap64 (x8 + 1)))) else (none)) else (none)) else (none)) else (spec_OrderOk.l4 k x0 x3 x6 x7 (wrap64 (x8 + 1)))) else (none)) else (none)) else (none)) else (none)) else (spec_OrderOk.l3 k x0 x3 x6 (wrap64 (x7 + 1)))
end
def spec_OrderOk.f (k : Nat) (l0 : List (List Int)) : Option (Bool) := (spec_l1In.f (l0.length : Int) 1 12).bind fun t136 => (if t136 = true then (spec_OrderOk.l0 k l0 (l0.length : Int) 0) else (some false))
set_option maxHeartbeats 8000000 in
set_option maxRecDepth 100000 in
theorem spec_OrderOk.calls (k : Nat) (A0 : Option Addr) (c0 : Nat) (l0 : List (List Int)) (r : Bool) (w : World) (hr0 : Kd.C (Kd.slice 3 (Kd.int .i64)) w A0 l0.length l0) (hc0 : l0.length ≤ c0) (h : spec_OrderOk.f k l0 = some r) :
    Calls Try.prog 89 #[.slice A0 l0.length c0] w fun e w' => e = .returned (.bool r) ∧ Drawn0 w w' := by
  have HR0 := Aside0.mk hr0
  have HC0 := Aside0.mk hc0
  clear hr0 hc0
  have H : ((spec_l1In.f (l0.length : Int) 1 12).bind fun t136 => (if t136 = true then (spec_OrderOk.l0 k l0 (l0.length : Int) 0) else (some false))) = some r := h
  clear h
  replace H := Option.bind_eq_some_iff.mp H
  obtain ⟨t136, A20, H⟩ := H
  replace H : (if t136 = true then (spec_OrderOk.l0 k l0 (l0.length : Int) 0) else (some false)) = some r := H
  have A2 := Aside0.mk A20
  clear A20
  by_cases c3 : t136 = true
  · subst c3
    have H1 : (spec_OrderOk.l0 k l0 (l0.length : Int) 0) = some r := by rw [if_pos rfl] at H; exact H
    clear H
    have H := H1
    clear H1
    have H' := Aside0.mk H
    clear H
    go_enter Try.func89, Try.ntmps89
    go_wp2_with (first | ((with_reducible refine gate_callee (f := 77) rfl ?_); refine goesL_ (some 12) rfl rfl Try.func77 (by kernel_rfl) rfl #[.int .i64 (l0.length : Int), .int .i64 1, .int .i64 12] rfl (by (try simp only [List.map_toArray, List.map_cons, List.map_nil]); first | done | rfl | (simp only [List.length_drop, List.length_take]; rfl)) ?_; (with_reducible refine (spec_l1In.calls (l0.length : Int) 1 12 true _ A2.out).mono ?_); rintro e w' ⟨rfl, ⟨nd, rfl⟩⟩; refine ⟨_, rfl, ?_⟩))
    go_loopg [4] k (fun kq v4 w' => ∃ (x4_1 : Int), v4 = .int .i64 x4_1 ∧ Aside0 (spec_OrderOk.l0 kq l0 (l0.length : Int) x4_1 = some r) ∧ Aside0 (kq ≤ k) ∧ Drawn0 w w')
    case atStart => exact ⟨(0), (by first | rfl | (simp; done) | (simp [*]; done)), H', ⟨Nat.le_refl _⟩, by repeat (first | exact Drawn0.refl _ | apply Drawn0.step)⟩
    case round =>
      clear H'
      try clear p2
      try clear c3
      obtain ⟨x4_1, rfl, HA, HK1, ⟨m1, rfl⟩⟩ := hrel
      cases gk with
      | zero => exact absurd HA.out (by simp [spec_OrderOk.l0])
      | succ k1 =>
        have H := HA.out
        clear HA
        simp only [spec_OrderOk.l0] at H
        by_cases c4 : x4_1 < (l0.length : Int)
        · rw [if_pos c4] at H
          have c4b0 : decide (x4_1 < (l0.length : Int)) = true := decide_eq_true c4
          clear c4
          by_cases c5 : 0 ≤ x4_1
          · rw [if_pos c5] at H
            have c5b0 : decide (0 ≤ x4_1) = true := decide_eq_true c5
            clear c5
            by_cases c6 : x4_1 < (l0.length : Int)
            · rw [if_pos c6] at H
              have c6b0 : decide (x4_1 < (l0.length : Int)) = true := decide_eq_true c6
              clear c6
              by_cases c7 : ((rd_L1 l0 x4_1).length : Int) = (l0.length : Int)
              · rw [if_pos c7] at H
                have c7b0 : (((rd_L1 l0 x4_1).length : Int) == (l0.length : Int)) = true := beq_iff_eq.mpr c7
                have c7b1 : (((rd_L1 l0 x4_1).length : Int) != (l0.length : Int)) = false := bne_eq_false_iff_eq.mpr c7
                have c7b2 : ((rd_L1 l0 x4_1).length == l0.length) = true := by first | simpa using c7 | (simp at c7 ⊢; omega)
                clear c7
                have H' := Aside0.mk H
                clear H
                have p137 : 0 ≤ (x4_1 : Int) := of_decide_eq_true (by first | (with_reducible assumption) | assumption)
                have q137 : x4_1 < (l0.length : Int) := of_decide_eq_true (by first | (with_reducible assumption) | assumption)
                obtain ⟨ad137, A137_0, c137_0, e137, hx137_0, hl137_0, hi137_0⟩ := at_L1 HR0.out x4_1 p137 q137
                cases e137
                have HR137_0 := Aside0.mk hi137_0
                have HC137_0 := Aside0.mk hl137_0
                clear hi137_0 hl137_0
                replace p137 := eq_true p137
                replace q137 := eq_true q137
                go_wp2
                go_loopg [5] k1 (fun kq v5 w' => ∃ (x5_2 : Int), v5 = .int .i64 x5_2 ∧ Aside0 (spec_OrderOk.l1 kq l0 (l0.length : Int) x4_1 x5_2 = some r) ∧ Aside0 (kq ≤ k1) ∧ Drawn0 w w')
                case atStart => exact ⟨(0), (by first | rfl | (simp; done) | (simp [*]; done)), H', ⟨Nat.le_refl _⟩, by repeat (first | exact Drawn0.refl _ | apply Drawn0.step)⟩
                case round =>
                  clear H'
                  try clear c1
                  try clear p1
                  try clear q1
                  try clear hx1
                  try clear p2
                  try clear c3
                  try clear c4
                  try clear c4b0
                  try clear c5
                  try clear c5b0
                  try clear c6
                  try clear c6b0
                  try clear c7
                  try clear c7b0
                  try clear c7b1
                  try clear c7b2
                  try clear hx137_0
                  try clear p137
                  try clear p2
                  try clear q137
                  obtain ⟨x5_2, rfl, HA, HK2, ⟨m2, rfl⟩⟩ := hrel
                  cases gk with
                  | zero => exact absurd HA.out (by simp [spec_OrderOk.l1])
                  | succ k2 =>
                    have H := HA.out
                    clear HA
                    simp only [spec_OrderOk.l1] at H
                    by_cases c8 : x5_2 < (l0.length : Int)
                    · rw [if_pos c8] at H
                      have c8b0 : decide (x5_2 < (l0.length : Int)) = true := decide_eq_true c8
                      clear c8
                      by_cases c9 : 0 ≤ x4_1
                      · rw [if_pos c9] at H
                        have c9b0 : decide (0 ≤ x4_1) = true := decide_eq_true c9
                        clear c9
                        by_cases c10 : x4_1 < (l0.length : Int)
                        · rw [if_pos c10] at H
                          have c10b0 : decide (x4_1 < (l0.length : Int)) = true := decide_eq_true c10
                          clear c10
                          by_cases c11 : 0 ≤ x5_2
                          · rw [if_pos c11] at H
                            have c11b0 : decide (0 ≤ x5_2) = true := decide_eq_true c11
                            clear c11
                            by_cases c12 : x5_2 < ((rd_L1 l0 x4_1).length : Int)
                            · rw [if_pos c12] at H
                              have c12b0 : decide (x5_2 < ((rd_L1 l0 x4_1).length : Int)) = true := decide_eq_true c12
                              clear c12
                              replace H := Option.bind_eq_some_iff.mp H
                              obtain ⟨t140, A130, H⟩ := H
                              replace H : (if t140 = true then (spec_OrderOk.l1 k2 l0 (l0.length : Int) x4_1 (wrap64 (x5_2 + 1))) else (some false)) = some r := H
                              have A13 := Aside0.mk A130
                              clear A130
                              by_cases c14 : t140 = true
                              · subst c14
                                have H1 : (spec_OrderOk.l1 k2 l0 (l0.length : Int) x4_1 (wrap64 (x5_2 + 1))) = some r := by rw [if_pos rfl] at H; exact H
                                clear H
                                have H := H1
                                clear H1
                                have H' := Aside0.mk H
                                clear H
                                have p138 : 0 ≤ (x4_1 : Int) := of_decide_eq_true (by first | (with_reducible assumption) | assumption)
                                have q138 : x4_1 < (l0.length : Int) := of_decide_eq_true (by first | (with_reducible assumption) | assumption)
                                obtain ⟨ad138, A138_0, c138_0, e138, hx138_0, hl138_0, hi138_0⟩ := at_L1 HR0.out x4_1 p138 q138
                                obtain rfl : ad137 = ad138 := (by injection e138)
                                have HR138_0 := Aside0.mk hi138_0
                                have HC138_0 := Aside0.mk hl138_0
                                clear hi138_0 hl138_0
                                replace p138 := eq_true p138
                                replace q138 := eq_true q138
                                have p139 : 0 ≤ (x5_2 : Int) := of_decide_eq_true (by first | (with_reducible assumption) | assumption)
                                have q139 : x5_2 < ((rd_L1 l0 x4_1).length : Int) := of_decide_eq_true (by first | (with_reducible assumption) | assumption)
                                obtain ⟨ad139, e139, hx139_0⟩ := Kd.at_int HR138_0.out x5_2 p139 q139
                                cases e139
                                replace p139 := eq_true p139
                                replace q139 := eq_true q139
                                go_wp2_with (first | ((with_reducible refine gate_callee (f := 77) rfl ?_); refine goesL_ (some 38) rfl rfl Try.func77 (by kernel_rfl) rfl #[.int .i64 (rd (rd_L1 l0 x4_1) x5_2), .int .i64 0, .int .i64 1] rfl (by (try simp only [List.map_toArray, List.map_cons, List.map_nil]); first | done | rfl | (simp only [List.length_drop, List.length_take]; rfl)) ?_; (with_reducible refine (spec_l1In.calls (rd (rd_L1 l0 x4_1) x5_2) 0 1 true _ A13.out).mono ?_); rintro e w' ⟨rfl, ⟨nd, rfl⟩⟩; refine ⟨_, rfl, ?_⟩))
                                go_roundg k2
                                case measure => have := HK1.out; have := HK2.out; omega
                                case rel => exact ⟨(wrap64 (x5_2 + 1)), (by first | rfl | (simp; done) | (simp [*]; done)), H', ⟨by have := HK1.out; have := HK2.out; omega⟩, by repeat (first | exact Drawn0.refl _ | apply Drawn0.step)⟩
                              · replace c14 := Bool.eq_false_iff.mpr c14
                                subst c14
                                have H1 : (some false) = some r := by rw [if_neg (show ¬ (false = true) by decide)] at H; exact H
                                clear H
                                have H := H1
                                clear H1
                                obtain rfl := Option.some.inj H
                                have p138 : 0 ≤ (x4_1 : Int) := of_decide_eq_true (by first | (with_reducible assumption) | assumption)
                                have q138 : x4_1 < (l0.length : Int) := of_decide_eq_true (by first | (with_reducible assumption) | assumption)
                                obtain ⟨ad138, A138_0, c138_0, e138, hx138_0, hl138_0, hi138_0⟩ := at_L1 HR0.out x4_1 p138 q138
                                obtain rfl : ad137 = ad138 := (by injection e138)
                                have HR138_0 := Aside0.mk hi138_0
                                have HC138_0 := Aside0.mk hl138_0
                                clear hi138_0 hl138_0
                                replace p138 := eq_true p138
                                replace q138 := eq_true q138
                                have p139 : 0 ≤ (x5_2 : Int) := of_decide_eq_true (by first | (with_reducible assumption) | assumption)
                                have q139 : x5_2 < ((rd_L1 l0 x4_1).length : Int) := of_decide_eq_true (by first | (with_reducible assumption) | assumption)
                                obtain ⟨ad139, e139, hx139_0⟩ := Kd.at_int HR138_0.out x5_2 p139 q139
                                cases e139
                                replace p139 := eq_true p139
                                replace q139 := eq_true q139
                                go_wp2_with (first | ((with_reducible refine gate_callee (f := 77) rfl ?_); refine goesL_ (some 38) rfl rfl Try.func77 (by kernel_rfl) rfl #[.int .i64 (rd (rd_L1 l0 x4_1) x5_2), .int .i64 0, .int .i64 1] rfl (by (try simp only [List.map_toArray, List.map_cons, List.map_nil]); first | done | rfl | (simp only [List.length_drop, List.length_take]; rfl)) ?_; (with_reducible refine (spec_l1In.calls (rd (rd_L1 l0 x4_1) x5_2) 0 1 false _ A13.out).mono ?_); rintro e w' ⟨rfl, ⟨nd, rfl⟩⟩; refine ⟨_, rfl, ?_⟩))
                                go_ret
                                exact ⟨by first | rfl | (simp; done) | (simp [*]; done), by repeat (first | exact Drawn0.refl _ | apply Drawn0.step)⟩
                            · rw [if_neg c12] at H
                              exact absurd H (by simp)
                          · rw [if_neg c11] at H
                            exact absurd H (by simp)
                        · rw [if_neg c10] at H
                          exact absurd H (by simp)
                      · rw [if_neg c9] at H
                        exact absurd H (by simp)
                    · rw [if_neg c8] at H
                      have c8b0 : decide (x5_2 < (l0.length : Int)) = false := decide_eq_false c8
                      clear c8
                      have H' := Aside0.mk H
                      clear H
                      go_wp2
                      go_roundg k2
                      case measure => have := HK1.out; have := HK2.out; omega
                      case rel => exact ⟨(wrap64 (x4_1 + 1)), (by first | rfl | (simp; done) | (simp [*]; done)), H', ⟨by have := HK1.out; have := HK2.out; omega⟩, by repeat (first | exact Drawn0.refl _ | apply Drawn0.step)⟩
              · rw [if_neg c7] at H
                have c7b0 : (((rd_L1 l0 x4_1).length : Int) == (l0.length : Int)) = false := beq_eq_false_iff_ne.mpr c7
                have c7b1 : (((rd_L1 l0 x4_1).length : Int) != (l0.length : Int)) = true := bne_iff_ne.mpr c7
                have c7b2 : ((rd_L1 l0 x4_1).length == l0.length) = false := by first | simpa using c7 | (simp at c7 ⊢; omega)
                obtain rfl := Option.some.inj H
                have p137 : 0 ≤ (x4_1 : Int) := of_decide_eq_true (by first | (with_reducible assumption) | assumption)
                have q137 : x4_1 < (l0.length : Int) := of_decide_eq_true (by first | (with_reducible assumption) | assumption)
                obtain ⟨ad137, A137_0, c137_0, e137, hx137_0, hl137_0, hi137_0⟩ := at_L1 HR0.out x4_1 p137 q137
                cases e137
                have HR137_0 := Aside0.mk hi137_0
                have HC137_0 := Aside0.mk hl137_0
                clear hi137_0 hl137_0
                replace p137 := eq_true p137
                replace q137 := eq_true q137
                go_wp2
                go_ret
                exact ⟨by first | rfl | (simp; done) | (simp [*]; done), by repeat (first | exact Drawn0.refl _ | apply Drawn0.step)⟩
            · rw [if_neg c6] at H
              exact absurd H (by simp)
          · rw [if_neg c5] at H
            exact absurd H (by simp)
        · rw [if_neg c4] at H
          have c4b0 : decide (x4_1 < (l0.length : Int)) = false := decide_eq_false c4
          clear c4
          have H' := Aside0.mk H
          clear H
          go_wp2
          go_loopg [6] k1 (fun kq v6 w' => ∃ (x6_2 : Int), v6 = .int .i64 x6_2 ∧ Aside0 (spec_OrderOk.l2 kq l0 (l0.length : Int) x6_2 = some r) ∧ Aside0 (kq ≤ k1) ∧ Drawn0 w w')
          case atStart => exact ⟨(0), (by first | rfl | (simp; done) | (simp [*]; done)), H', ⟨Nat.le_refl _⟩, by repeat (first | exact Drawn0.refl _ | apply Drawn0.step)⟩
          case round =>
            clear H'
            try clear c1
            try clear p1
            try clear q1
            try clear hx1
            try clear p2
            try clear c3
            try clear c4
            try clear c4b0
            try clear c5
            try clear c5b0
            try clear c6
            try clear c6b0
            try clear p6
            try clear c7
            try clear c7b0
            try clear c7b1
            try clear c7b2
            try clear c8
            try clear c8b0
            try clear c9
            try clear c9b0
            try clear c10
            try clear c10b0
            try clear c11
            try clear c11b0
            try clear c12
            try clear c12b0
            try clear c13
            try clear p13
            try clear q13
            try clear hx13
            try clear c14
            try clear hx137_0
            try clear hx138_0
            try clear hx139_0
            try clear p1
            try clear p137
            try clear p138
            try clear p139
            try clear p2
            try clear q1
            try clear q137
            try clear q138
            try clear q139
            obtain ⟨x6_2, rfl, HA, HK2, ⟨m2, rfl⟩⟩ := hrel
            cases gk with
            | zero => exact absurd HA.out (by simp [spec_OrderOk.l2])
            | succ k2 =>
              have H := HA.out
              clear HA
              simp only [spec_OrderOk.l2] at H
              by_cases c15 : x6_2 < (l0.length : Int)
              · rw [if_pos c15] at H
                have c15b0 : decide (x6_2 < (l0.length : Int)) = true := decide_eq_true c15
                clear c15
                have H' := Aside0.mk H
                clear H
                go_wp2
                go_loopg [7] k2 (fun kq v7 w' => ∃ (x7_3 : Int), v7 = .int .i64 x7_3 ∧ Aside0 (spec_OrderOk.l3 kq l0 (l0.length : Int) x6_2 x7_3 = some r) ∧ Aside0 (kq ≤ k2) ∧ Drawn0 w w')
                case atStart => exact ⟨(0), (by first | rfl | (simp; done) | (simp [*]; done)), H', ⟨Nat.le_refl _⟩, by repeat (first | exact Drawn0.refl _ | apply Drawn0.step)⟩
                case round =>
                  clear H'
                  try clear c1
                  try clear p1
                  try clear q1
                  try clear hx1
                  try clear p2
                  try clear c3
                  try clear c4
                  try clear c4b0
                  try clear c5
                  try clear c5b0
                  try clear c6
                  try clear c6b0
                  try clear p6
                  try clear c7
                  try clear c7b0
                  try clear c7b1
                  try clear c7b2
                  try clear c8
                  try clear c8b0
                  try clear c9
                  try clear c9b0
                  try clear c10
                  try clear c10b0
                  try clear c11
                  try clear c11b0
                  try clear c12
                  try clear c12b0
                  try clear c13
                  try clear p13
                  try clear q13
                  try clear hx13
                  try clear c14
                  try clear c15
                  try clear c15b0
                  try clear hx137_0
                  try clear hx138_0
                  try clear hx139_0
                  try clear p1
                  try clear p13
                  try clear p137
                  try clear p138
                  try clear p139
                  try clear p2
                  try clear p6
                  try clear q1
                  try clear q13
                  try clear q137
                  try clear q138
                  try clear q139
                  obtain ⟨x7_3, rfl, HA, HK3, ⟨m3, rfl⟩⟩ := hrel
                  cases gk with
                  | zero => exact absurd HA.out (by simp [spec_OrderOk.l3])
                  | succ k3 =>
                    have H := HA.out
                    clear HA
                    simp only [spec_OrderOk.l3] at H
                    by_cases c16 : x7_3 < (l0.length : Int)
                    · rw [if_pos c16] at H
                      have c16b0 : decide (x7_3 < (l0.length : Int)) = true := decide_eq_true c16
                      clear c16
                      have HC17 := Aside0.mk H
                      clear H
                      go_upto_region 20 with (fail)
                      go_cut [87] (fun v87 wc => ∃ (kq : Nat) (x87_16 : Bool), v87 = .bool x87_16 ∧ Aside0 (spec_OrderOk.j4 kq l0 (l0.length : Int) x6_2 x7_3 x87_16 = some r) ∧ Aside0 (kq ≤ k3) ∧ Drawn0 w wc)
                      case first =>
                        have H := HC17.out
                        clear HC17
                        by_cases c18 : x6_2 = x7_3
                        · rw [if_pos c18] at H
                          have c18b0 : (x6_2 == x7_3) = true := beq_iff_eq.mpr c18
                          have c18b1 : (x6_2 != x7_3) = false := bne_eq_false_iff_eq.mpr c18
                          clear c18
                          (first | rw [c18b0] | (simp only [i64_w, i32_w]; rw [c18b0]) | skip)
                          by_cases c19 : 0 ≤ x6_2
                          · rw [if_pos c19] at H
                            have c19b0 : decide (0 ≤ x6_2) = true := decide_eq_true c19
                            clear c19
                            by_cases c20 : x6_2 < (l0.length : Int)
                            · rw [if_pos c20] at H
                              have c20b0 : decide (x6_2 < (l0.length : Int)) = true := decide_eq_true c20
                              clear c20
                              by_cases c21 : 0 ≤ x7_3
                              · rw [if_pos c21] at H
                                have c21b0 : decide (0 ≤ x7_3) = true := decide_eq_true c21
                                clear c21
                                by_cases c22 : x7_3 < ((rd_L1 l0 x6_2).length : Int)
                                · rw [if_pos c22] at H
                                  have c22b0 : decide (x7_3 < ((rd_L1 l0 x6_2).length : Int)) = true := decide_eq_true c22
                                  clear c22
                                  by_cases c23 : (rd (rd_L1 l0 x6_2) x7_3) = 0
                                  · rw [if_pos c23] at H
                                    have c23b0 : ((rd (rd_L1 l0 x6_2) x7_3) == 0) = true := beq_iff_eq.mpr c23
                                    have c23b1 : ((rd (rd_L1 l0 x6_2) x7_3) != 0) = false := bne_eq_false_iff_eq.mpr c23
                                    clear c23
                                    have H' := Aside0.mk H
                                    clear H
                                    have p141 : 0 ≤ (x6_2 : Int) := of_decide_eq_true (by first | (with_reducible assumption) | assumption)
                                    have q141 : x6_2 < (l0.length : Int) := of_decide_eq_true (by first | (with_reducible assumption) | assumption)
                                    obtain ⟨ad141, A141_0, c141_0, e141, hx141_0, hl141_0, hi141_0⟩ := at_L1 HR0.out x6_2 p141 q141
                                    cases e141
                                    have HR141_0 := Aside0.mk hi141_0
                                    have HC141_0 := Aside0.mk hl141_0
                                    clear hi141_0 hl141_0
                                    replace p141 := eq_true p141
                                    replace q141 := eq_true q141
                                    have p142 : 0 ≤ (x7_3 : Int) := of_decide_eq_true (by first | (with_reducible assumption) | assumption)
                                    have q142 : x7_3 < ((rd_L1 l0 x6_2).length : Int) := of_decide_eq_true (by first | (with_reducible assumption) | assumption)
                                    obtain ⟨ad142, e142, hx142_0⟩ := Kd.at_int HR141_0.out x7_3 p142 q142
                                    cases e142
                                    replace p142 := eq_true p142
                                    replace q142 := eq_true q142
                                    go_wp2
                                    go_meet
                                    case rel => exact ⟨_, (true), (by first | rfl | (simp; done) | (simp [*]; done)), H', ⟨by have := HK1.out; have := HK2.out; have := HK3.out; first | omega | exact Nat.le_refl _⟩, by repeat (first | exact Drawn0.refl _ | apply Drawn0.step)⟩
                                  · rw [if_neg c23] at H
                                    have c23b0 : ((rd (rd_L1 l0 x6_2) x7_3) == 0) = false := beq_eq_false_iff_ne.mpr c23
                                    have c23b1 : ((rd (rd_L1 l0 x6_2) x7_3) != 0) = true := bne_iff_ne.mpr c23
                                    have H' := Aside0.mk H
                                    clear H
                                    have p141 : 0 ≤ (x6_2 : Int) := of_decide_eq_true (by first | (with_reducible assumption) | assumption)
                                    have q141 : x6_2 < (l0.length : Int) := of_decide_eq_true (by first | (with_reducible assumption) | assumption)
                                    obtain ⟨ad141, A141_0, c141_0, e141, hx141_0, hl141_0, hi141_0⟩ := at_L1 HR0.out x6_2 p141 q141
                                    cases e141
                                    have HR141_0 := Aside0.mk hi141_0
                                    have HC141_0 := Aside0.mk hl141_0
                                    clear hi141_0 hl141_0
                                    replace p141 := eq_true p141
                                    replace q141 := eq_true q141
                                    have p142 : 0 ≤ (x7_3 : Int) := of_decide_eq_true (by first | (with_reducible assumption) | assumption)
                                    have q142 : x7_3 < ((rd_L1 l0 x6_2).length : Int) := of_decide_eq_true (by first | (with_reducible assumption) | assumption)
                                    obtain ⟨ad142, e142, hx142_0⟩ := Kd.at_int HR141_0.out x7_3 p142 q142
                                    cases e142
                                    replace p142 := eq_true p142
                                    replace q142 := eq_true q142
                                    go_wp2
                                    go_meet
                                    case rel => exact ⟨_, (false), (by first | rfl | (simp; done) | (simp [*]; done)), H', ⟨by have := HK1.out; have := HK2.out; have := HK3.out; first | omega | exact Nat.le_refl _⟩, by repeat (first | exact Drawn0.refl _ | apply Drawn0.step)⟩
                                · rw [if_neg c22] at H
                                  exact absurd H (by simp)
                              · rw [if_neg c21] at H
                                exact absurd H (by simp)
                            · rw [if_neg c20] at H
                              exact absurd H (by simp)
                          · rw [if_neg c19] at H
                            exact absurd H (by simp)
                        · rw [if_neg c18] at H
                          have c18b0 : (x6_2 == x7_3) = false := beq_eq_false_iff_ne.mpr c18
                          have c18b1 : (x6_2 != x7_3) = true := bne_iff_ne.mpr c18
                          (first | rw [c18b0] | (simp only [i64_w, i32_w]; rw [c18b0]) | skip)
                          by_cases c24 : 0 ≤ x6_2
                          · rw [if_pos c24] at H
                            have c24b0 : decide (0 ≤ x6_2) = true := decide_eq_true c24
                            clear c24
                            by_cases c25 : x6_2 < (l0.length : Int)
                            · rw [if_pos c25] at H
                              have c25b0 : decide (x6_2 < (l0.length : Int)) = true := decide_eq_true c25
                              clear c25
                              by_cases c26 : 0 ≤ x7_3
                              · rw [if_pos c26] at H
                                have c26b0 : decide (0 ≤ x7_3) = true := decide_eq_true c26
                                clear c26
                                by_cases c27 : x7_3 < ((rd_L1 l0 x6_2).length : Int)
                                · rw [if_pos c27] at H
                                  have c27b0 : decide (x7_3 < ((rd_L1 l0 x6_2).length : Int)) = true := decide_eq_true c27
                                  clear c27
                                  by_cases c28 : (rd (rd_L1 l0 x6_2) x7_3) = 1
                                  · rw [if_pos c28] at H
                                    have c28b0 : ((rd (rd_L1 l0 x6_2) x7_3) == 1) = true := beq_iff_eq.mpr c28
                                    have c28b1 : ((rd (rd_L1 l0 x6_2) x7_3) != 1) = false := bne_eq_false_iff_eq.mpr c28
                                    clear c28
                                    by_cases c29 : x7_3 < (l0.length : Int)
                                    · rw [if_pos c29] at H
                                      have c29b0 : decide (x7_3 < (l0.length : Int)) = true := decide_eq_true c29
                                      clear c29
                                      by_cases c30 : x6_2 < ((rd_L1 l0 x7_3).length : Int)
                                      · rw [if_pos c30] at H
                                        have c30b0 : decide (x6_2 < ((rd_L1 l0 x7_3).length : Int)) = true := decide_eq_true c30
                                        clear c30
                                        have H' := Aside0.mk H
                                        clear H
                                        have p143 : 0 ≤ (x6_2 : Int) := of_decide_eq_true (by first | (with_reducible assumption) | assumption)
                                        have q143 : x6_2 < (l0.length : Int) := of_decide_eq_true (by first | (with_reducible assumption) | assumption)
                                        obtain ⟨ad143, A143_0, c143_0, e143, hx143_0, hl143_0, hi143_0⟩ := at_L1 HR0.out x6_2 p143 q143
                                        cases e143
                                        have HR143_0 := Aside0.mk hi143_0
                                        have HC143_0 := Aside0.mk hl143_0
                                        clear hi143_0 hl143_0
                                        replace p143 := eq_true p143
                                        replace q143 := eq_true q143
                                        have p144 : 0 ≤ (x7_3 : Int) := of_decide_eq_true (by first | (with_reducible assumption) | assumption)
                                        have q144 : x7_3 < ((rd_L1 l0 x6_2).length : Int) := of_decide_eq_true (by first | (with_reducible assumption) | assumption)
                                        obtain ⟨ad144, e144, hx144_0⟩ := Kd.at_int HR143_0.out x7_3 p144 q144
                                        cases e144
                                        replace p144 := eq_true p144
                                        replace q144 := eq_true q144
                                        have p145 : 0 ≤ (x7_3 : Int) := of_decide_eq_true (by first | (with_reducible assumption) | assumption)
                                        have q145 : x7_3 < (l0.length : Int) := of_decide_eq_true (by first | (with_reducible assumption) | assumption)
                                        obtain ⟨ad145, A145_0, c145_0, e145, hx145_0, hl145_0, hi145_0⟩ := at_L1 HR0.out x7_3 p145 q145
                                        obtain rfl : ad143 = ad145 := (by injection e145)
                                        have HR145_0 := Aside0.mk hi145_0
                                        have HC145_0 := Aside0.mk hl145_0
                                        clear hi145_0 hl145_0
                                        replace p145 := eq_true p145
                                        replace q145 := eq_true q145
                                        have p146 : 0 ≤ (x6_2 : Int) := of_decide_eq_true (by first | (with_reducible assumption) | assumption)
                                        have q146 : x6_2 < ((rd_L1 l0 x7_3).length : Int) := of_decide_eq_true (by first | (with_reducible assumption) | assumption)
                                        obtain ⟨ad146, e146, hx146_0⟩ := Kd.at_int HR145_0.out x6_2 p146 q146
                                        cases e146
                                        replace p146 := eq_true p146
                                        replace q146 := eq_true q146
                                        go_wp2
                                        go_meet
                                        case rel => exact ⟨_, (((rd (rd_L1 l0 x7_3) x6_2) == 1)), (by first | rfl | (simp; done) | (simp [*]; done)), H', ⟨by have := HK1.out; have := HK2.out; have := HK3.out; first | omega | exact Nat.le_refl _⟩, by repeat (first | exact Drawn0.refl _ | apply Drawn0.step)⟩
                                      · rw [if_neg c30] at H
                                        exact absurd H (by simp)
                                    · rw [if_neg c29] at H
                                      exact absurd H (by simp)
                                  · rw [if_neg c28] at H
                                    have c28b0 : ((rd (rd_L1 l0 x6_2) x7_3) == 1) = false := beq_eq_false_iff_ne.mpr c28
                                    have c28b1 : ((rd (rd_L1 l0 x6_2) x7_3) != 1) = true := bne_iff_ne.mpr c28
                                    have H' := Aside0.mk H
                                    clear H
                                    have p143 : 0 ≤ (x6_2 : Int) := of_decide_eq_true (by first | (with_reducible assumption) | assumption)
                                    have q143 : x6_2 < (l0.length : Int) := of_decide_eq_true (by first | (with_reducible assumption) | assumption)
                                    obtain ⟨ad143, A143_0, c143_0, e143, hx143_0, hl143_0, hi143_0⟩ := at_L1 HR0.out x6_2 p143 q143
                                    cases e143
                                    have HR143_0 := Aside0.mk hi143_0
                                    have HC143_0 := Aside0.mk hl143_0
                                    clear hi143_0 hl143_0
                                    replace p143 := eq_true p143
                                    replace q143 := eq_true q143
                                    have p144 : 0 ≤ (x7_3 : Int) := of_decide_eq_true (by first | (with_reducible assumption) | assumption)
                                    have q144 : x7_3 < ((rd_L1 l0 x6_2).length : Int) := of_decide_eq_true (by first | (with_reducible assumption) | assumption)
                                    obtain ⟨ad144, e144, hx144_0⟩ := Kd.at_int HR143_0.out x7_3 p144 q144
                                    cases e144
                                    replace p144 := eq_true p144
                                    replace q144 := eq_true q144
                                    go_wp2
                                    go_meet
                                    case rel => exact ⟨_, (false), (by first | rfl | (simp; done) | (simp [*]; done)), H', ⟨by have := HK1.out; have := HK2.out; have := HK3.out; first | omega | exact Nat.le_refl _⟩, by repeat (first | exact Drawn0.refl _ | apply Drawn0.step)⟩
                                · rw [if_neg c27] at H
                                  exact absurd H (by simp)
                              · rw [if_neg c26] at H
                                exact absurd H (by simp)
                            · rw [if_neg c25] at H
                              exact absurd H (by simp)
                          · rw [if_neg c24] at H
                            exact absurd H (by simp)
                      case rest =>
                        clear HC17
                        try clear c1
                        try clear p1
                        try clear q1
                        try clear hx1
                        try clear c2
                        try clear p2
                        try clear c3
                        try clear c4
                        try clear c4b0
                        try clear c5
                        try clear c5b0
                        try clear c6
                        try clear c6b0
                        try clear p6
                        try clear c7
                        try clear c7b0
                        try clear c7b1
                        try clear c7b2
                        try clear c8
                        try clear c8b0
                        try clear c9
                        try clear c9b0
                        try clear c10
                        try clear c10b0
                        try clear c11
                        try clear c11b0
                        try clear c12
                        try clear c12b0
                        try clear c13
                        try clear p13
                        try clear q13
                        try clear hx13
                        try clear c14
                        try clear p14
                        try clear q14
                        try clear hx14
                        try clear c15
                        try clear c15b0
                        try clear c16
                        try clear c16b0
                        try clear c18
                        try clear c18b0
                        try clear c18b1
                        try clear c19
                        try clear c19b0
                        try clear c20
                        try clear c20b0
                        try clear c21
                        try clear c21b0
                        try clear c22
                        try clear c22b0
                        try clear c23
                        try clear c23b0
                        try clear c23b1
                        try clear c24
                        try clear c24b0
                        try clear c25
                        try clear c25b0
                        try clear c26
                        try clear c26b0
                        try clear c27
                        try clear c27b0
                        try clear c28
                        try clear c28b0
                        try clear c28b1
                        try clear c29
                        try clear c29b0
                        try clear c30
                        try clear c30b0
                        try clear hx137_0
                        try clear hx138_0
                        try clear hx139_0
                        try clear hx141_0
                        try clear hx142_0
                        try clear hx143_0
                        try clear hx144_0
                        try clear hx145_0
                        try clear hx146_0
                        try clear p1
                        try clear p13
                        try clear p137
                        try clear p138
                        try clear p139
                        try clear p141
                        try clear p142
                        try clear p143
                        try clear p144
                        try clear p145
                        try clear p146
                        try clear p2
                        try clear p6
                        try clear q1
                        try clear q13
                        try clear q137
                        try clear q138
                        try clear q139
                        try clear q141
                        try clear q142
                        try clear q143
                        try clear q144
                        try clear q145
                        try clear q146
                        obtain ⟨kq, x87_16, rfl, HA, HJ16, ⟨mc16, rfl⟩⟩ := hcut
                        cases kq with
                        | zero => exact absurd HA.out (by simp [spec_OrderOk.j4])
                        | succ kj16 =>
                          have H := HA.out
                          clear HA
                          simp only [spec_OrderOk.j4] at H
                          by_cases c31 : x87_16 = true
                          · subst c31
                            have H1 : (some false) = some r := by rw [if_pos rfl] at H; exact H
                            clear H
                            have H := H1
                            clear H1
                            obtain rfl := Option.some.inj H
                            go_wp2
                            go_ret
                            exact ⟨by first | rfl | (simp; done) | (simp [*]; done), by repeat (first | exact Drawn0.refl _ | apply Drawn0.step)⟩
                          · replace c31 := Bool.eq_false_iff.mpr c31
                            subst c31
                            have H1 : (spec_OrderOk.l4 kj16 l0 (l0.length : Int) x6_2 x7_3 0) = some r := by rw [if_neg (show ¬ (false = true) by decide)] at H; exact H
                            clear H
                            have H := H1
                            clear H1
                            have H' := Aside0.mk H
                            clear H
                            go_wp2
                            go_loopg [8] kj16 (fun kq v8 w' => ∃ (x8_5 : Int), v8 = .int .i64 x8_5 ∧ Aside0 (spec_OrderOk.l4 kq l0 (l0.length : Int) x6_2 x7_3 x8_5 = some r) ∧ Aside0 (kq ≤ kj16) ∧ Drawn0 w w')
                            case atStart => exact ⟨(0), (by first | rfl | (simp; done) | (simp [*]; done)), H', ⟨Nat.le_refl _⟩, by repeat (first | exact Drawn0.refl _ | apply Drawn0.step)⟩
                            case round =>
                              clear H'
                              try clear c1
                              try clear p1
                              try clear q1
                              try clear hx1
                              try clear c2
                              try clear p2
                              try clear c3
                              try clear c4
                              try clear c4b0
                              try clear c5
                              try clear c5b0
                              try clear c6
                              try clear c6b0
                              try clear p6
                              try clear c7
                              try clear c7b0
                              try clear c7b1
                              try clear c7b2
                              try clear c8
                              try clear c8b0
                              try clear c9
                              try clear c9b0
                              try clear c10
                              try clear c10b0
                              try clear c11
                              try clear c11b0
                              try clear c12
                              try clear c12b0
                              try clear c13
                              try clear p13
                              try clear q13
                              try clear hx13
                              try clear c14
                              try clear p14
                              try clear q14
                              try clear hx14
                              try clear c15
                              try clear c15b0
                              try clear c16
                              try clear c16b0
                              try clear c18
                              try clear c18b0
                              try clear c18b1
                              try clear c19
                              try clear c19b0
                              try clear c20
                              try clear c20b0
                              try clear c21
                              try clear c21b0
                              try clear c22
                              try clear c22b0
                              try clear c23
                              try clear c23b0
                              try clear c23b1
                              try clear c24
                              try clear c24b0
                              try clear c25
                              try clear c25b0
                              try clear c26
                              try clear c26b0
                              try clear c27
                              try clear c27b0
                              try clear c28
                              try clear c28b0
                              try clear c28b1
                              try clear c29
                              try clear c29b0
                              try clear c30
                              try clear c30b0
                              try clear c31
                              try clear hx137_0
                              try clear hx138_0
                              try clear hx139_0
                              try clear hx141_0
                              try clear hx142_0
                              try clear hx143_0
                              try clear hx144_0
                              try clear hx145_0
                              try clear hx146_0
                              try clear p1
                              try clear p13
                              try clear p137
                              try clear p138
                              try clear p139
                              try clear p14
                              try clear p141
                              try clear p142
                              try clear p143
                              try clear p144
                              try clear p145
                              try clear p146
                              try clear p2
                              try clear p6
                              try clear q1
                              try clear q13
                              try clear q137
                              try clear q138
                              try clear q139
                              try clear q14
                              try clear q141
                              try clear q142
                              try clear q143
                              try clear q144
                              try clear q145
                              try clear q146
                              obtain ⟨x8_5, rfl, HA, HK5, ⟨m5, rfl⟩⟩ := hrel
                              cases gk with
                              | zero => exact absurd HA.out (by simp [spec_OrderOk.l4])
                              | succ k5 =>
                                have H := HA.out
                                clear HA
                                simp only [spec_OrderOk.l4] at H
                                by_cases c32 : x8_5 < (l0.length : Int)
                                · rw [if_pos c32] at H
                                  have c32b0 : decide (x8_5 < (l0.length : Int)) = true := decide_eq_true c32
                                  clear c32
                                  by_cases c33 : 0 ≤ x6_2
                                  · rw [if_pos c33] at H
                                    have c33b0 : decide (0 ≤ x6_2) = true := decide_eq_true c33
                                    clear c33
                                    by_cases c34 : x6_2 < (l0.length : Int)
                                    · rw [if_pos c34] at H
                                      have c34b0 : decide (x6_2 < (l0.length : Int)) = true := decide_eq_true c34
                                      clear c34
                                      by_cases c35 : 0 ≤ x7_3
                                      · rw [if_pos c35] at H
                                        have c35b0 : decide (0 ≤ x7_3) = true := decide_eq_true c35
                                        clear c35
                                        by_cases c36 : x7_3 < ((rd_L1 l0 x6_2).length : Int)
                                        · rw [if_pos c36] at H
                                          have c36b0 : decide (x7_3 < ((rd_L1 l0 x6_2).length : Int)) = true := decide_eq_true c36
                                          clear c36
                                          by_cases c37 : (rd (rd_L1 l0 x6_2) x7_3) = 1
                                          · rw [if_pos c37] at H
                                            have c37b0 : ((rd (rd_L1 l0 x6_2) x7_3) == 1) = true := beq_iff_eq.mpr c37
                                            have c37b1 : ((rd (rd_L1 l0 x6_2) x7_3) != 1) = false := bne_eq_false_iff_eq.mpr c37
                                            clear c37
                                            by_cases c38 : x7_3 < (l0.length : Int)
                                            · rw [if_pos c38] at H
                                              have c38b0 : decide (x7_3 < (l0.length : Int)) = true := decide_eq_true c38
                                              clear c38
                                              by_cases c39 : 0 ≤ x8_5
                                              · rw [if_pos c39] at H
                                                have c39b0 : decide (0 ≤ x8_5) = true := decide_eq_true c39
                                                clear c39
                                                by_cases c40 : x8_5 < ((rd_L1 l0 x7_3).length : Int)
                                                · rw [if_pos c40] at H
                                                  have c40b0 : decide (x8_5 < ((rd_L1 l0 x7_3).length : Int)) = true := decide_eq_true c40
                                                  clear c40
                                                  by_cases c41 : (rd (rd_L1 l0 x7_3) x8_5) = 1
                                                  · rw [if_pos c41] at H
                                                    have c41b0 : ((rd (rd_L1 l0 x7_3) x8_5) == 1) = true := beq_iff_eq.mpr c41
                                                    have c41b1 : ((rd (rd_L1 l0 x7_3) x8_5) != 1) = false := bne_eq_false_iff_eq.mpr c41
                                                    clear c41
                                                    by_cases c42 : x8_5 < ((rd_L1 l0 x6_2).length : Int)
                                                    · rw [if_pos c42] at H
                                                      have c42b0 : decide (x8_5 < ((rd_L1 l0 x6_2).length : Int)) = true := decide_eq_true c42
                                                      clear c42
                                                      by_cases c43 : (rd (rd_L1 l0 x6_2) x8_5) = 0
                                                      · rw [if_pos c43] at H
                                                        have c43b0 : ((rd (rd_L1 l0 x6_2) x8_5) == 0) = true := beq_iff_eq.mpr c43
                                                        have c43b1 : ((rd (rd_L1 l0 x6_2) x8_5) != 0) = false := bne_eq_false_iff_eq.mpr c43
                                                        clear c43
                                                        obtain rfl := Option.some.inj H
                                                        have p147 : 0 ≤ (x6_2 : Int) := of_decide_eq_true (by first | (with_reducible assumption) | assumption)
                                                        have q147 : x6_2 < (l0.length : Int) := of_decide_eq_true (by first | (with_reducible assumption) | assumption)
                                                        obtain ⟨ad147, A147_0, c147_0, e147, hx147_0, hl147_0, hi147_0⟩ := at_L1 HR0.out x6_2 p147 q147
                                                        cases e147
                                                        have HR147_0 := Aside0.mk hi147_0
                                                        have HC147_0 := Aside0.mk hl147_0
                                                        clear hi147_0 hl147_0
                                                        replace p147 := eq_true p147
                                                        replace q147 := eq_true q147
                                                        have p148 : 0 ≤ (x7_3 : Int) := of_decide_eq_true (by first | (with_reducible assumption) | assumption)
                                                        have q148 : x7_3 < ((rd_L1 l0 x6_2).length : Int) := of_decide_eq_true (by first | (with_reducible assumption) | assumption)
                                                        obtain ⟨ad148, e148, hx148_0⟩ := Kd.at_int HR147_0.out x7_3 p148 q148
                                                        cases e148
                                                        replace p148 := eq_true p148
                                                        replace q148 := eq_true q148
                                                        have p149 : 0 ≤ (x7_3 : Int) := of_decide_eq_true (by first | (with_reducible assumption) | assumption)
                                                        have q149 : x7_3 < (l0.length : Int) := of_decide_eq_true (by first | (with_reducible assumption) | assumption)
                                                        obtain ⟨ad149, A149_0, c149_0, e149, hx149_0, hl149_0, hi149_0⟩ := at_L1 HR0.out x7_3 p149 q149
                                                        obtain rfl : ad147 = ad149 := (by injection e149)
                                                        have HR149_0 := Aside0.mk hi149_0
                                                        have HC149_0 := Aside0.mk hl149_0
                                                        clear hi149_0 hl149_0
                                                        replace p149 := eq_true p149
                                                        replace q149 := eq_true q149
                                                        have p150 : 0 ≤ (x8_5 : Int) := of_decide_eq_true (by first | (with_reducible assumption) | assumption)
                                                        have q150 : x8_5 < ((rd_L1 l0 x7_3).length : Int) := of_decide_eq_true (by first | (with_reducible assumption) | assumption)
                                                        obtain ⟨ad150, e150, hx150_0⟩ := Kd.at_int HR149_0.out x8_5 p150 q150
                                                        cases e150
                                                        replace p150 := eq_true p150
                                                        replace q150 := eq_true q150
                                                        have p151 : 0 ≤ (x6_2 : Int) := of_decide_eq_true (by first | (with_reducible assumption) | assumption)
                                                        have q151 : x6_2 < (l0.length : Int) := of_decide_eq_true (by first | (with_reducible assumption) | assumption)
                                                        obtain ⟨ad151, A151_0, c151_0, e151, hx151_0, hl151_0, hi151_0⟩ := at_L1 HR0.out x6_2 p151 q151
                                                        obtain rfl : ad147 = ad151 := (by injection e151)
                                                        have HR151_0 := Aside0.mk hi151_0
                                                        have HC151_0 := Aside0.mk hl151_0
                                                        clear hi151_0 hl151_0
                                                        replace p151 := eq_true p151
                                                        replace q151 := eq_true q151
                                                        have ea_ := Option.some.inj (hx147_0.symm.trans hx151_0)
                                                        injection ea_ with ea_ en_ ec_
                                                        subst ea_
                                                        subst ec_
                                                        clear en_
                                                        have p152 : 0 ≤ (x8_5 : Int) := of_decide_eq_true (by first | (with_reducible assumption) | assumption)
                                                        have q152 : x8_5 < ((rd_L1 l0 x6_2).length : Int) := of_decide_eq_true (by first | (with_reducible assumption) | assumption)
                                                        obtain ⟨ad152, e152, hx152_0⟩ := Kd.at_int HR151_0.out x8_5 p152 q152
                                                        cases e152
                                                        replace p152 := eq_true p152
                                                        replace q152 := eq_true q152
                                                        go_wp2
                                                        go_ret
                                                        exact ⟨by first | rfl | (simp; done) | (simp [*]; done), by repeat (first | exact Drawn0.refl _ | apply Drawn0.step)⟩
                                                      · rw [if_neg c43] at H
                                                        have c43b0 : ((rd (rd_L1 l0 x6_2) x8_5) == 0) = false := beq_eq_false_iff_ne.mpr c43
                                                        have c43b1 : ((rd (rd_L1 l0 x6_2) x8_5) != 0) = true := bne_iff_ne.mpr c43
                                                        have H' := Aside0.mk H
                                                        clear H
                                                        have p147 : 0 ≤ (x6_2 : Int) := of_decide_eq_true (by first | (with_reducible assumption) | assumption)
                                                        have q147 : x6_2 < (l0.length : Int) := of_decide_eq_true (by first | (with_reducible assumption) | assumption)
                                                        obtain ⟨ad147, A147_0, c147_0, e147, hx147_0, hl147_0, hi147_0⟩ := at_L1 HR0.out x6_2 p147 q147
                                                        cases e147
                                                        have HR147_0 := Aside0.mk hi147_0
                                                        have HC147_0 := Aside0.mk hl147_0
                                                        clear hi147_0 hl147_0
                                                        replace p147 := eq_true p147
                                                        replace q147 := eq_true q147
                                                        have p148 : 0 ≤ (x7_3 : Int) := of_decide_eq_true (by first | (with_reducible assumption) | assumption)
                                                        have q148 : x7_3 < ((rd_L1 l0 x6_2).length : Int) := of_decide_eq_true (by first | (with_reducible assumption) | assumption)
                                                        obtain ⟨ad148, e148, hx148_0⟩ := Kd.at_int HR147_0.out x7_3 p148 q148
                                                        cases e148
                                                        replace p148 := eq_true p148
                                                        replace q148 := eq_true q148
                                                        have p149 : 0 ≤ (x7_3 : Int) := of_decide_eq_true (by first | (with_reducible assumption) | assumption)
                                                        have q149 : x7_3 < (l0.length : Int) := of_decide_eq_true (by first | (with_reducible assumption) | assumption)
                                                        obtain ⟨ad149, A149_0, c149_0, e149, hx149_0, hl149_0, hi149_0⟩ := at_L1 HR0.out x7_3 p149 q149
                                                        obtain rfl : ad147 = ad149 := (by injection e149)
                                                        have HR149_0 := Aside0.mk hi149_0
                                                        have HC149_0 := Aside0.mk hl149_0
                                                        clear hi149_0 hl149_0
                                                        replace p149 := eq_true p149
                                                        replace q149 := eq_true q149
                                                        have p150 : 0 ≤ (x8_5 : Int) := of_decide_eq_true (by first | (with_reducible assumption) | assumption)
                                                        have q150 : x8_5 < ((rd_L1 l0 x7_3).length : Int) := of_decide_eq_true (by first | (with_reducible assumption) | assumption)
                                                        obtain ⟨ad150, e150, hx150_0⟩ := Kd.at_int HR149_0.out x8_5 p150 q150
                                                        cases e150
                                                        replace p150 := eq_true p150
                                                        replace q150 := eq_true q150
                                                        have p151 : 0 ≤ (x6_2 : Int) := of_decide_eq_true (by first | (with_reducible assumption) | assumption)
                                                        have q151 : x6_2 < (l0.length : Int) := of_decide_eq_true (by first | (with_reducible assumption) | assumption)
                                                        obtain ⟨ad151, A151_0, c151_0, e151, hx151_0, hl151_0, hi151_0⟩ := at_L1 HR0.out x6_2 p151 q151
                                                        obtain rfl : ad147 = ad151 := (by injection e151)
                                                        have HR151_0 := Aside0.mk hi151_0
                                                        have HC151_0 := Aside0.mk hl151_0
                                                        clear hi151_0 hl151_0
                                                        replace p151 := eq_true p151
                                                        replace q151 := eq_true q151
                                                        have ea_ := Option.some.inj (hx147_0.symm.trans hx151_0)
                                                        injection ea_ with ea_ en_ ec_
                                                        subst ea_
                                                        subst ec_
                                                        clear en_
                                                        have p152 : 0 ≤ (x8_5 : Int) := of_decide_eq_true (by first | (with_reducible assumption) | assumption)
                                                        have q152 : x8_5 < ((rd_L1 l0 x6_2).length : Int) := of_decide_eq_true (by first | (with_reducible assumption) | assumption)
                                                        obtain ⟨ad152, e152, hx152_0⟩ := Kd.at_int HR151_0.out x8_5 p152 q152
                                                        cases e152
                                                        replace p152 := eq_true p152
                                                        replace q152 := eq_true q152
                                                        go_wp2
                                                        go_roundg k5
                                                        case measure => have := HK1.out; have := HK2.out; have := HK3.out; have := HJ16.out; have := HK5.out; omega
                                                        case rel => exact ⟨(wrap64 (x8_5 + 1)), (by first | rfl | (simp; done) | (simp [*]; done)), H', ⟨by have := HK1.out; have := HK2.out; have := HK3.out; have := HJ16.out; have := HK5.out; omega⟩, by repeat (first | exact Drawn0.refl _ | apply Drawn0.step)⟩
                                                    · rw [if_neg c42] at H
                                                      exact absurd H (by simp)
                                                  · rw [if_neg c41] at H
                                                    have c41b0 : ((rd (rd_L1 l0 x7_3) x8_5) == 1) = false := beq_eq_false_iff_ne.mpr c41
                                                    have c41b1 : ((rd (rd_L1 l0 x7_3) x8_5) != 1) = true := bne_iff_ne.mpr c41
                                                    have H' := Aside0.mk H
                                                    clear H
                                                    have p147 : 0 ≤ (x6_2 : Int) := of_decide_eq_true (by first | (with_reducible assumption) | assumption)
                                                    have q147 : x6_2 < (l0.length : Int) := of_decide_eq_true (by first | (with_reducible assumption) | assumption)
                                                    obtain ⟨ad147, A147_0, c147_0, e147, hx147_0, hl147_0, hi147_0⟩ := at_L1 HR0.out x6_2 p147 q147
                                                    cases e147
                                                    have HR147_0 := Aside0.mk hi147_0
                                                    have HC147_0 := Aside0.mk hl147_0
                                                    clear hi147_0 hl147_0
                                                    replace p147 := eq_true p147
                                                    replace q147 := eq_true q147
                                                    have p148 : 0 ≤ (x7_3 : Int) := of_decide_eq_true (by first | (with_reducible assumption) | assumption)
                                                    have q148 : x7_3 < ((rd_L1 l0 x6_2).length : Int) := of_decide_eq_true (by first | (with_reducible assumption) | assumption)
                                                    obtain ⟨ad148, e148, hx148_0⟩ := Kd.at_int HR147_0.out x7_3 p148 q148
                                                    cases e148
                                                    replace p148 := eq_true p148
                                                    replace q148 := eq_true q148
                                                    have p149 : 0 ≤ (x7_3 : Int) := of_decide_eq_true (by first | (with_reducible assumption) | assumption)
                                                    have q149 : x7_3 < (l0.length : Int) := of_decide_eq_true (by first | (with_reducible assumption) | assumption)
                                                    obtain ⟨ad149, A149_0, c149_0, e149, hx149_0, hl149_0, hi149_0⟩ := at_L1 HR0.out x7_3 p149 q149
                                                    obtain rfl : ad147 = ad149 := (by injection e149)
                                                    have HR149_0 := Aside0.mk hi149_0
                                                    have HC149_0 := Aside0.mk hl149_0
                                                    clear hi149_0 hl149_0
                                                    replace p149 := eq_true p149
                                                    replace q149 := eq_true q149
                                                    have p150 : 0 ≤ (x8_5 : Int) := of_decide_eq_true (by first | (with_reducible assumption) | assumption)
                                                    have q150 : x8_5 < ((rd_L1 l0 x7_3).length : Int) := of_decide_eq_true (by first | (with_reducible assumption) | assumption)
                                                    obtain ⟨ad150, e150, hx150_0⟩ := Kd.at_int HR149_0.out x8_5 p150 q150
                                                    cases e150
                                                    replace p150 := eq_true p150
                                                    replace q150 := eq_true q150
                                                    go_wp2
                                                    go_roundg k5
                                                    case measure => have := HK1.out; have := HK2.out; have := HK3.out; have := HJ16.out; have := HK5.out; omega
                                                    case rel => exact ⟨(wrap64 (x8_5 + 1)), (by first | rfl | (simp; done) | (simp [*]; done)), H', ⟨by have := HK1.out; have := HK2.out; have := HK3.out; have := HJ16.out; have := HK5.out; omega⟩, by repeat (first | exact Drawn0.refl _ | apply Drawn0.step)⟩
                                                · rw [if_neg c40] at H
                                                  exact absurd H (by simp)
                                              · rw [if_neg c39] at H
                                                exact absurd H (by simp)
                                            · rw [if_neg c38] at H
                                              exact absurd H (by simp)
                                          · rw [if_neg c37] at H
                                            have c37b0 : ((rd (rd_L1 l0 x6_2) x7_3) == 1) = false := beq_eq_false_iff_ne.mpr c37
                                            have c37b1 : ((rd (rd_L1 l0 x6_2) x7_3) != 1) = true := bne_iff_ne.mpr c37
                                            have H' := Aside0.mk H
                                            clear H
                                            have p147 : 0 ≤ (x6_2 : Int) := of_decide_eq_true (by first | (with_reducible assumption) | assumption)
                                            have q147 : x6_2 < (l0.length : Int) := of_decide_eq_true (by first | (with_reducible assumption) | assumption)
                                            obtain ⟨ad147, A147_0, c147_0, e147, hx147_0, hl147_0, hi147_0⟩ := at_L1 HR0.out x6_2 p147 q147
                                            cases e147
                                            have HR147_0 := Aside0.mk hi147_0
                                            have HC147_0 := Aside0.mk hl147_0
                                            clear hi147_0 hl147_0
                                            replace p147 := eq_true p147
                                            replace q147 := eq_true q147
                                            have p148 : 0 ≤ (x7_3 : Int) := of_decide_eq_true (by first | (with_reducible assumption) | assumption)
                                            have q148 : x7_3 < ((rd_L1 l0 x6_2).length : Int) := of_decide_eq_true (by first | (with_reducible assumption) | assumption)
                                            obtain ⟨ad148, e148, hx148_0⟩ := Kd.at_int HR147_0.out x7_3 p148 q148
                                            cases e148
                                            replace p148 := eq_true p148
                                            replace q148 := eq_true q148
                                            go_wp2
                                            go_roundg k5
                                            case measure => have := HK1.out; have := HK2.out; have := HK3.out; have := HJ16.out; have := HK5.out; omega
                                            case rel => exact ⟨(wrap64 (x8_5 + 1)), (by first | rfl | (simp; done) | (simp [*]; done)), H', ⟨by have := HK1.out; have := HK2.out; have := HK3.out; have := HJ16.out; have := HK5.out; omega⟩, by repeat (first | exact Drawn0.refl _ | apply Drawn0.step)⟩
                                        · rw [if_neg c36] at H
                                          exact absurd H (by simp)
                                      · rw [if_neg c35] at H
                                        exact absurd H (by simp)
                                    · rw [if_neg c34] at H
                                      exact absurd H (by simp)
                                  · rw [if_neg c33] at H
                                    exact absurd H (by simp)
                                · rw [if_neg c32] at H
                                  have c32b0 : decide (x8_5 < (l0.length : Int)) = false := decide_eq_false c32
                                  clear c32
                                  have H' := Aside0.mk H
                                  clear H
                                  go_wp2
                                  go_roundg k5
                                  case measure => have := HK1.out; have := HK2.out; have := HK3.out; have := HJ16.out; have := HK5.out; omega
                                  case rel => exact ⟨(wrap64 (x7_3 + 1)), (by first | rfl | (simp; done) | (simp [*]; done)), H', ⟨by have := HK1.out; have := HK2.out; have := HK3.out; have := HJ16.out; have := HK5.out; omega⟩, by repeat (first | exact Drawn0.refl _ | apply Drawn0.step)⟩
                    · rw [if_neg c16] at H
                      have c16b0 : decide (x7_3 < (l0.length : Int)) = false := decide_eq_false c16
                      clear c16
                      have H' := Aside0.mk H
                      clear H
                      go_wp2
                      go_roundg k3
                      case measure => have := HK1.out; have := HK2.out; have := HK3.out; omega
                      case rel => exact ⟨(wrap64 (x6_2 + 1)), (by first | rfl | (simp; done) | (simp [*]; done)), H', ⟨by have := HK1.out; have := HK2.out; have := HK3.out; omega⟩, by repeat (first | exact Drawn0.refl _ | apply Drawn0.step)⟩
              · rw [if_neg c15] at H
                have c15b0 : decide (x6_2 < (l0.length : Int)) = false := decide_eq_false c15
                clear c15
                obtain rfl := Option.some.inj H
                go_wp2
                go_ret
                exact ⟨by first | rfl | (simp; done) | (simp [*]; done), by repeat (first | exact Drawn0.refl _ | apply Drawn0.step)⟩
  · replace c3 := Bool.eq_false_iff.mpr c3
    subst c3
    have H1 : (some false) = some r := by rw [if_neg (show ¬ (false = true) by decide)] at H; exact H
    clear H
    have H := H1
    clear H1
    obtain rfl := Option.some.inj H
    go_enter Try.func89, Try.ntmps89
    go_wp2_with (first | ((with_reducible refine gate_callee (f := 77) rfl ?_); refine goesL_ (some 12) rfl rfl Try.func77 (by kernel_rfl) rfl #[.int .i64 (l0.length : Int), .int .i64 1, .int .i64 12] rfl (by (try simp only [List.map_toArray, List.map_cons, List.map_nil]); first | done | rfl | (simp only [List.length_drop, List.length_take]; rfl)) ?_; (with_reducible refine (spec_l1In.calls (l0.length : Int) 1 12 false _ A2.out).mono ?_); rintro e w' ⟨rfl, ⟨nd, rfl⟩⟩; refine ⟨_, rfl, ?_⟩))
    go_ret
    exact ⟨by first | rfl | (simp; done) | (simp [*]; done), by repeat (first | exact Drawn0.refl _ | apply Drawn0.step)⟩
end Go.Proofs.Ytjoadckkdophnaa.Print
end
section
namespace Go.Proofs.Ytjoadckkdophnaa.Print
open Go.RowKit Go.Proofs.YtjoadckkdophnaaW.PrintWords Go.Proofs.YtjoadckkdophnaaW.PrintLast Go.Proofs.YtjoadckkdophnaaW.PrintMore
attribute [local go_sem] max2_int min2_int max_two min_two max_three min_three max_four min_four   -- for this text's walks alone
set_option linter.unusedVariables false
set_option linter.unusedSimpArgs false
mutual
def spec_LatticeOk.l0 : Nat → List (List Int) → Int → Option (Bool)
  | 0, _, _ => none
  | k + 1, x0, x3 => if x3 < (x0.length : Int) then ((spec_OrderOk.f k x0).bind fun t153 => (spec_LatticeOk.j1 k x0 x3 t153)) else (spec_LatticeOk.j1 k x0 x3 false)
def spec_LatticeOk.j1 : Nat → List (List Int) → Int → Bool → Option (Bool)
  | 0, _, _, _ => none
  | k + 1, x0, x3, x12 => if x12 = true then (spec_LatticeOk.l1 k x0 x3 0) else ((spec_OrderOk.f k x0).bind fun t154 => (some t154))
def spec_LatticeOk.l1 : Nat → List (List Int) → Int → Int → Option (Bool)
  | 0, _, _, _ => none
  | k + 1, x0, x3, x4 => if x4 < x3 then ((spec_l1Meet.f k x0 x3 x4).bind fun t155 => (if t155 < 0 then (some false) else ((spec_l1Join.f k x0 x3 x4).bind fun t156 => (if t156 < 0 then (some false) else (spec_LatticeOk.l1 k x0 x3 (wrap64 (x4 + 1))))))) else (spec_LatticeOk.l0 k x0 (wrap64 (x3 + 1)))
end
def spec_LatticeOk.f (k : Nat) (l0 : List (List Int)) : Option (Bool) := spec_LatticeOk.l0 k l0 0
set_option maxHeartbeats 8000000 in
set_option maxRecDepth 100000 in
theorem spec_LatticeOk.calls (k : Nat) (A0 : Option Addr) (c0 : Nat) (l0 : List (List Int)) (r : Bool) (w : World) (hr0 : Kd.C (Kd.slice 3 (Kd.int .i64)) w A0 l0.length l0) (hc0 : l0.length ≤ c0) (h : spec_LatticeOk.f k l0 = some r) :
    Calls Try.prog 83 #[.slice A0 l0.length c0] w fun e w' => e = .returned (.bool r) ∧ Drawn0 w w' := by
  have HR0 := Aside0.mk hr0
  have HC0 := Aside0.mk hc0
  clear hr0 hc0
  have H : (spec_LatticeOk.l0 k l0 0) = some r := h
  clear h
  have H' := Aside0.mk H
  clear H
  go_enter Try.func83, Try.ntmps83
  go_wp2
  go_loopg [3] k (fun kq v3 w' => ∃ (x3_1 : Int), v3 = .int .i64 x3_1 ∧ Aside0 (spec_LatticeOk.l0 kq l0 x3_1 = some r) ∧ Aside0 (kq ≤ k) ∧ Drawn0 w w')
  case atStart => exact ⟨(0), (by first | rfl | (simp; done) | (simp [*]; done)), H', ⟨Nat.le_refl _⟩, by repeat (first | exact Drawn0.refl _ | apply Drawn0.step)⟩
  case round =>
    clear H'
    obtain ⟨x3_1, rfl, HA, HK1, ⟨m1, rfl⟩⟩ := hrel
    cases gk with
    | zero => exact absurd HA.out (by simp [spec_LatticeOk.l0])
    | succ k1 =>
      have H := HA.out
      clear HA
      simp only [spec_LatticeOk.l0] at H
      have HC2 := Aside0.mk H
      clear H
      go_upto_region 2 with (fail)
      go_cut [12] (fun v12 wc => ∃ (kq : Nat) (x12_1 : Bool), v12 = .bool x12_1 ∧ Aside0 (spec_LatticeOk.j1 kq l0 x3_1 x12_1 = some r) ∧ Aside0 (kq ≤ k1) ∧ Drawn0 w wc)
      case first =>
        have H := HC2.out
        clear HC2
        by_cases c3 : x3_1 < (l0.length : Int)
        · rw [if_pos c3] at H
          have c3b0 : decide (x3_1 < (l0.length : Int)) = true := decide_eq_true c3
          clear c3
          (first | rw [c3b0] | (simp only [i64_w, i32_w]; rw [c3b0]) | skip)
          replace H := Option.bind_eq_some_iff.mp H
          obtain ⟨t153, A40, H⟩ := H
          replace H : (spec_LatticeOk.j1 k1 l0 x3_1 t153) = some r := H
          have A4 := Aside0.mk A40
          clear A40
          have H' := Aside0.mk H
          clear H
          go_wp2_with (first | (go_at_call 89; (with_reducible refine (spec_OrderOk.calls k1 _ _ l0 t153 _ ?side1 ?side2 A4.out).mono ?_); (case side1 => repeat (first | exact HR0.out | (with_reducible refine Kd.C_alloc ?_ _) | (with_reducible refine Kd.C_drewN ?_ _) | (with_reducible refine Kd.C_drew ?_))); (case side2 => exact HC0.out); rintro e w' ⟨rfl, ⟨nd, rfl⟩⟩))
          go_meet
          case rel => exact ⟨_, (t153), (by first | rfl | (simp; done) | (simp [*]; done)), H', ⟨by have := HK1.out; first | omega | exact Nat.le_refl _⟩, by repeat (first | exact Drawn0.refl _ | apply Drawn0.step)⟩
        · rw [if_neg c3] at H
          have c3b0 : decide (x3_1 < (l0.length : Int)) = false := decide_eq_false c3
          clear c3
          (first | rw [c3b0] | (simp only [i64_w, i32_w]; rw [c3b0]) | skip)
          have H' := Aside0.mk H
          clear H
          go_wp2
          go_meet
          case rel => exact ⟨_, (false), (by first | rfl | (simp; done) | (simp [*]; done)), H', ⟨by have := HK1.out; first | omega | exact Nat.le_refl _⟩, by repeat (first | exact Drawn0.refl _ | apply Drawn0.step)⟩
      case rest =>
        clear HC2
        try clear p2
        try clear c3
        try clear c3b0
        obtain ⟨kq, x12_1, rfl, HA, HJ1, ⟨mc1, rfl⟩⟩ := hcut
        cases kq with
        | zero => exact absurd HA.out (by simp [spec_LatticeOk.j1])
        | succ kj1 =>
          have H := HA.out
          clear HA
          simp only [spec_LatticeOk.j1] at H
          by_cases c5 : x12_1 = true
          · subst c5
            have H1 : (spec_LatticeOk.l1 kj1 l0 x3_1 0) = some r := by rw [if_pos rfl] at H; exact H
            clear H
            have H := H1
            clear H1
            have H' := Aside0.mk H
            clear H
            go_wp2
            go_loopg [4] kj1 (fun kq v4 w' => ∃ (x4_3 : Int), v4 = .int .i64 x4_3 ∧ Aside0 (spec_LatticeOk.l1 kq l0 x3_1 x4_3 = some r) ∧ Aside0 (kq ≤ kj1) ∧ Drawn0 w w')
            case atStart => exact ⟨(0), (by first | rfl | (simp; done) | (simp [*]; done)), H', ⟨Nat.le_refl _⟩, by repeat (first | exact Drawn0.refl _ | apply Drawn0.step)⟩
            case round =>
              clear H'
              try clear c1
              try clear p2
              try clear c3
              try clear c3b0
              try clear c5
              try clear p2
              obtain ⟨x4_3, rfl, HA, HK3, ⟨m3, rfl⟩⟩ := hrel
              cases gk with
              | zero => exact absurd HA.out (by simp [spec_LatticeOk.l1])
              | succ k3 =>
                have H := HA.out
                clear HA
                simp only [spec_LatticeOk.l1] at H
                by_cases c6 : x4_3 < x3_1
                · rw [if_pos c6] at H
                  have c6b0 : decide (x4_3 < x3_1) = true := decide_eq_true c6
                  clear c6
                  replace H := Option.bind_eq_some_iff.mp H
                  obtain ⟨t155, A70, H⟩ := H
                  replace H : (if t155 < 0 then (some false) else ((spec_l1Join.f k3 l0 x3_1 x4_3).bind fun t156 => (if t156 < 0 then (some false) else (spec_LatticeOk.l1 k3 l0 x3_1 (wrap64 (x4_3 + 1)))))) = some r := H
                  have A7 := Aside0.mk A70
                  clear A70
                  by_cases c8 : t155 < 0
                  · rw [if_pos c8] at H
                    have c8b0 : decide (t155 < 0) = true := decide_eq_true c8
                    clear c8
                    obtain rfl := Option.some.inj H
                    go_wp2_with (first | ((with_reducible refine gate_callee (f := 52) rfl ?_); refine goesL_ (some 23) rfl rfl Try.func52 (by kernel_rfl) rfl #[.slice A0 l0.length c0, .int .i64 x3_1, .int .i64 x4_3] rfl (by (try simp only [List.map_toArray, List.map_cons, List.map_nil]); first | done | rfl | (simp only [List.length_drop, List.length_take]; rfl)) ?_; (with_reducible refine (spec_l1Meet.calls k3 _ _ l0 x3_1 x4_3 t155 _ ?side1 ?side2 A7.out).mono ?_); (case side1 => repeat (first | exact HR0.out | (with_reducible refine Kd.C_alloc ?_ _) | (with_reducible refine Kd.C_drewN ?_ _) | (with_reducible refine Kd.C_drew ?_))); (case side2 => exact HC0.out); rintro e w' ⟨rfl, ⟨nd, rfl⟩⟩; refine ⟨_, rfl, ?_⟩))
                    go_ret
                    exact ⟨by first | rfl | (simp; done) | (simp [*]; done), by repeat (first | exact Drawn0.refl _ | apply Drawn0.step)⟩
                  · rw [if_neg c8] at H
                    have c8b0 : decide (t155 < 0) = false := decide_eq_false c8
                    clear c8
                    replace H := Option.bind_eq_some_iff.mp H
                    obtain ⟨t156, A90, H⟩ := H
                    replace H : (if t156 < 0 then (some false) else (spec_LatticeOk.l1 k3 l0 x3_1 (wrap64 (x4_3 + 1)))) = some r := H
                    have A9 := Aside0.mk A90
                    clear A90
                    by_cases c10 : t156 < 0
                    · rw [if_pos c10] at H
                      have c10b0 : decide (t156 < 0) = true := decide_eq_true c10
                      clear c10
                      obtain rfl := Option.some.inj H
                      go_wp2_with (first | ((with_reducible refine gate_callee (f := 52) rfl ?_); refine goesL_ (some 23) rfl rfl Try.func52 (by kernel_rfl) rfl #[.slice A0 l0.length c0, .int .i64 x3_1, .int .i64 x4_3] rfl (by (try simp only [List.map_toArray, List.map_cons, List.map_nil]); first | done | rfl | (simp only [List.length_drop, List.length_take]; rfl)) ?_; (with_reducible refine (spec_l1Meet.calls k3 _ _ l0 x3_1 x4_3 t155 _ ?side1 ?side2 A7.out).mono ?_); (case side1 => repeat (first | exact HR0.out | (with_reducible refine Kd.C_alloc ?_ _) | (with_reducible refine Kd.C_drewN ?_ _) | (with_reducible refine Kd.C_drew ?_))); (case side2 => exact HC0.out); rintro e w' ⟨rfl, ⟨nd, rfl⟩⟩; refine ⟨_, rfl, ?_⟩) | (go_at_call 51; (with_reducible refine (spec_l1Join.calls k3 _ _ l0 x3_1 x4_3 t156 _ ?side1 ?side2 A9.out).mono ?_); (case side1 => repeat (first | exact HR0.out | (with_reducible refine Kd.C_alloc ?_ _) | (with_reducible refine Kd.C_drewN ?_ _) | (with_reducible refine Kd.C_drew ?_))); (case side2 => exact HC0.out); rintro e w' ⟨rfl, ⟨nd, rfl⟩⟩))
                      go_ret
                      exact ⟨by first | rfl | (simp; done) | (simp [*]; done), by repeat (first | exact Drawn0.refl _ | apply Drawn0.step)⟩
                    · rw [if_neg c10] at H
                      have c10b0 : decide (t156 < 0) = false := decide_eq_false c10
                      clear c10
                      have H' := Aside0.mk H
                      clear H
                      go_wp2_with (first | ((with_reducible refine gate_callee (f := 52) rfl ?_); refine goesL_ (some 23) rfl rfl Try.func52 (by kernel_rfl) rfl #[.slice A0 l0.length c0, .int .i64 x3_1, .int .i64 x4_3] rfl (by (try simp only [List.map_toArray, List.map_cons, List.map_nil]); first | done | rfl | (simp only [List.length_drop, List.length_take]; rfl)) ?_; (with_reducible refine (spec_l1Meet.calls k3 _ _ l0 x3_1 x4_3 t155 _ ?side1 ?side2 A7.out).mono ?_); (case side1 => repeat (first | exact HR0.out | (with_reducible refine Kd.C_alloc ?_ _) | (with_reducible refine Kd.C_drewN ?_ _) | (with_reducible refine Kd.C_drew ?_))); (case side2 => exact HC0.out); rintro e w' ⟨rfl, ⟨nd, rfl⟩⟩; refine ⟨_, rfl, ?_⟩) | (go_at_call 51; (with_reducible refine (spec_l1Join.calls k3 _ _ l0 x3_1 x4_3 t156 _ ?side1 ?side2 A9.out).mono ?_); (case side1 => repeat (first | exact HR0.out | (with_reducible refine Kd.C_alloc ?_ _) | (with_reducible refine Kd.C_drewN ?_ _) | (with_reducible refine Kd.C_drew ?_))); (case side2 => exact HC0.out); rintro e w' ⟨rfl, ⟨nd, rfl⟩⟩))
                      go_roundg k3
                      case measure => have := HK1.out; have := HJ1.out; have := HK3.out; omega
                      case rel => exact ⟨(wrap64 (x4_3 + 1)), (by first | rfl | (simp; done) | (simp [*]; done)), H', ⟨by have := HK1.out; have := HJ1.out; have := HK3.out; omega⟩, by repeat (first | exact Drawn0.refl _ | apply Drawn0.step)⟩
                · rw [if_neg c6] at H
                  have c6b0 : decide (x4_3 < x3_1) = false := decide_eq_false c6
                  clear c6
                  have H' := Aside0.mk H
                  clear H
                  go_wp2
                  go_roundg k3
                  case measure => have := HK1.out; have := HJ1.out; have := HK3.out; omega
                  case rel => exact ⟨(wrap64 (x3_1 + 1)), (by first | rfl | (simp; done) | (simp [*]; done)), H', ⟨by have := HK1.out; have := HJ1.out; have := HK3.out; omega⟩, by repeat (first | exact Drawn0.refl _ | apply Drawn0.step)⟩
          · replace c5 := Bool.eq_false_iff.mpr c5
            subst c5
            have H1 : ((spec_OrderOk.f kj1 l0).bind fun t154 => (some t154)) = some r := by rw [if_neg (show ¬ (false = true) by decide)] at H; exact H
            clear H
            have H := H1
            clear H1
            replace H := Option.bind_eq_some_iff.mp H
            obtain ⟨t154, A110, H⟩ := H
            replace H : (some t154) = some r := H
            have A11 := Aside0.mk A110
            clear A110
            obtain rfl := Option.some.inj H
            go_wp2_with (first | ((with_reducible refine gate_callee (f := 89) rfl ?_); refine goesL_ (some 33) rfl rfl Try.func89 (by kernel_rfl) rfl #[.slice A0 l0.length c0] rfl (by (try simp only [List.map_toArray, List.map_cons, List.map_nil]); first | done | rfl | (simp only [List.length_drop, List.length_take]; rfl)) ?_; (with_reducible refine (spec_OrderOk.calls kj1 _ _ l0 t154 _ ?side1 ?side2 A11.out).mono ?_); (case side1 => repeat (first | exact HR0.out | (with_reducible refine Kd.C_alloc ?_ _) | (with_reducible refine Kd.C_drewN ?_ _) | (with_reducible refine Kd.C_drew ?_))); (case side2 => exact HC0.out); rintro e w' ⟨rfl, ⟨nd, rfl⟩⟩; refine ⟨_, rfl, ?_⟩))
            go_ret
            exact ⟨by first | rfl | (simp; done) | (simp [*]; done), by repeat (first | exact Drawn0.refl _ | apply Drawn0.step)⟩
end Go.Proofs.Ytjoadckkdophnaa.Print
end
section
namespace Go.Proofs.Ytjoadckkdophnaa.Print
open Go.RowKit Go.Proofs.YtjoadckkdophnaaW.PrintWords Go.Proofs.YtjoadckkdophnaaW.PrintLast Go.Proofs.YtjoadckkdophnaaW.PrintMore
attribute [local go_sem] max2_int min2_int max_two min_two max_three min_three max_four min_four   -- for this text's walks alone
set_option linter.unusedVariables false
set_option linter.unusedSimpArgs false
mutual
def spec_LeastOf.l0 : Nat → List (List Int) → Int → Option (Int × Bool)
  | 0, _, _ => none
  | k + 1, x0, x4 => if x4 < (x0.length : Int) then ((spec_OrderOk.f k x0).bind fun t157 => (spec_LeastOf.j1 k x0 x4 t157)) else (spec_LeastOf.j1 k x0 x4 false)
def spec_LeastOf.j1 : Nat → List (List Int) → Int → Bool → Option (Int × Bool)
  | 0, _, _, _ => none
  | k + 1, x0, x4, x14 => if x14 = true then (spec_LeastOf.l1 k x0 x4 true 0) else (some ((-1), false))
def spec_LeastOf.l1 : Nat → List (List Int) → Int → Bool → Int → Option (Int × Bool)
  | 0, _, _, _, _ => none
  | k + 1, x0, x4, x5, x6 => if x6 < (x0.length : Int) then (if x5 = true then (if 0 ≤ x4 then (if x4 < (x0.length : Int) then (if 0 ≤ x6 then (if x6 < ((rd_L1 x0 x4).length : Int) then (spec_LeastOf.l1 k x0 x4 ((rd (rd_L1 x0 x4) x6) == 1) (wrap64 (x6 + 1))) else (none)) else (none)) else (none)) else (none)) else (spec_LeastOf.l1 k x0 x4 false (wrap64 (x6 + 1)))) else (if x5 = true then (some (x4, true)) else (spec_LeastOf.l0 k x0 (wrap64 (x4 + 1))))
end
def spec_LeastOf.f (k : Nat) (l0 : List (List Int)) : Option (Int × Bool) := spec_LeastOf.l0 k l0 0
set_option maxHeartbeats 8000000 in
set_option maxRecDepth 100000 in
theorem spec_LeastOf.calls (k : Nat) (A0 : Option Addr) (c0 : Nat) (l0 : List (List Int)) (r1 : Int) (r2 : Bool) (w : World) (hr0 : Kd.C (Kd.slice 3 (Kd.int .i64)) w A0 l0.length l0) (hc0 : l0.length ≤ c0) (h : spec_LeastOf.f k l0 = some (r1, r2)) :
    Calls Try.prog 84 #[.slice A0 l0.length c0] w fun e w' => e = .returned (.tuple #[.int .i64 r1, .bool r2]) ∧ Drawn0 w w' := by
  have HR0 := Aside0.mk hr0
  have HC0 := Aside0.mk hc0
  clear hr0 hc0
  have H : (spec_LeastOf.l0 k l0 0) = some (r1, r2) := h
  clear h
  have H' := Aside0.mk H
  clear H
  go_enter Try.func84, Try.ntmps84
  go_wp2
  go_loopg [4] k (fun kq v4 w' => ∃ (x4_1 : Int), v4 = .int .i64 x4_1 ∧ Aside0 (spec_LeastOf.l0 kq l0 x4_1 = some (r1, r2)) ∧ Aside0 (kq ≤ k) ∧ Drawn0 w w')
  case atStart => exact ⟨(0), (by first | rfl | (simp; done) | (simp [*]; done)), H', ⟨Nat.le_refl _⟩, by repeat (first | exact Drawn0.refl _ | apply Drawn0.step)⟩
  case round =>
    clear H'
    obtain ⟨x4_1, rfl, HA, HK1, ⟨m1, rfl⟩⟩ := hrel
    cases gk with
    | zero => exact absurd HA.out (by simp [spec_LeastOf.l0])
    | succ k1 =>
      have H := HA.out
      clear HA
      simp only [spec_LeastOf.l0] at H
      have HC2 := Aside0.mk H
      clear H
      go_upto_region 2 with (fail)
      go_cut [14] (fun v14 wc => ∃ (kq : Nat) (x14_1 : Bool), v14 = .bool x14_1 ∧ Aside0 (spec_LeastOf.j1 kq l0 x4_1 x14_1 = some (r1, r2)) ∧ Aside0 (kq ≤ k1) ∧ Drawn0 w wc)
      case first =>
        have H := HC2.out
        clear HC2
        by_cases c3 : x4_1 < (l0.length : Int)
        · rw [if_pos c3] at H
          have c3b0 : decide (x4_1 < (l0.length : Int)) = true := decide_eq_true c3
          clear c3
          (first | rw [c3b0] | (simp only [i64_w, i32_w]; rw [c3b0]) | skip)
          replace H := Option.bind_eq_some_iff.mp H
          obtain ⟨t157, A40, H⟩ := H
          replace H : (spec_LeastOf.j1 k1 l0 x4_1 t157) = some (r1, r2) := H
          have A4 := Aside0.mk A40
          clear A40
          have H' := Aside0.mk H
          clear H
          go_wp2_with (first | (go_at_call 89; (with_reducible refine (spec_OrderOk.calls k1 _ _ l0 t157 _ ?side1 ?side2 A4.out).mono ?_); (case side1 => repeat (first | exact HR0.out | (with_reducible refine Kd.C_alloc ?_ _) | (with_reducible refine Kd.C_drewN ?_ _) | (with_reducible refine Kd.C_drew ?_))); (case side2 => exact HC0.out); rintro e w' ⟨rfl, ⟨nd, rfl⟩⟩))
          go_meet
          case rel => exact ⟨_, (t157), (by first | rfl | (simp; done) | (simp [*]; done)), H', ⟨by have := HK1.out; first | omega | exact Nat.le_refl _⟩, by repeat (first | exact Drawn0.refl _ | apply Drawn0.step)⟩
        · rw [if_neg c3] at H
          have c3b0 : decide (x4_1 < (l0.length : Int)) = false := decide_eq_false c3
          clear c3
          (first | rw [c3b0] | (simp only [i64_w, i32_w]; rw [c3b0]) | skip)
          have H' := Aside0.mk H
          clear H
          go_wp2
          go_meet
          case rel => exact ⟨_, (false), (by first | rfl | (simp; done) | (simp [*]; done)), H', ⟨by have := HK1.out; first | omega | exact Nat.le_refl _⟩, by repeat (first | exact Drawn0.refl _ | apply Drawn0.step)⟩
      case rest =>
        clear HC2
        try clear p2
        try clear c3
        try clear c3b0
        obtain ⟨kq, x14_1, rfl, HA, HJ1, ⟨mc1, rfl⟩⟩ := hcut
        cases kq with
        | zero => exact absurd HA.out (by simp [spec_LeastOf.j1])
        | succ kj1 =>
          have H := HA.out
          clear HA
          simp only [spec_LeastOf.j1] at H
          by_cases c5 : x14_1 = true
          · subst c5
            have H1 : (spec_LeastOf.l1 kj1 l0 x4_1 true 0) = some (r1, r2) := by rw [if_pos rfl] at H; exact H
            clear H
            have H := H1
            clear H1
            have H' := Aside0.mk H
            clear H
            go_wp2
            go_loopg [5, 6] kj1 (fun kq v5 v6 w' => ∃ (x5_3 : Bool) (x6_3 : Int), v5 = .bool x5_3 ∧ v6 = .int .i64 x6_3 ∧ Aside0 (spec_LeastOf.l1 kq l0 x4_1 x5_3 x6_3 = some (r1, r2)) ∧ Aside0 (kq ≤ kj1) ∧ Drawn0 w w')
            case atStart => exact ⟨(true), (0), (by first | rfl | (simp; done) | (simp [*]; done)), (by first | rfl | (simp; done) | (simp [*]; done)), H', ⟨Nat.le_refl _⟩, by repeat (first | exact Drawn0.refl _ | apply Drawn0.step)⟩
            case round =>
              clear H'
              try clear c1
              try clear p2
              try clear c3
              try clear c3b0
              try clear c5
              try clear p2
              obtain ⟨x5_3, x6_3, rfl, rfl, HA, HK3, ⟨m3, rfl⟩⟩ := hrel
              cases gk with
              | zero => exact absurd HA.out (by simp [spec_LeastOf.l1])
              | succ k3 =>
                have H := HA.out
                clear HA
                simp only [spec_LeastOf.l1] at H
                by_cases c6 : x6_3 < (l0.length : Int)
                · rw [if_pos c6] at H
                  have c6b0 : decide (x6_3 < (l0.length : Int)) = true := decide_eq_true c6
                  clear c6
                  by_cases c7 : x5_3 = true
                  · subst c7
                    have H1 : (if 0 ≤ x4_1 then (if x4_1 < (l0.length : Int) then (if 0 ≤ x6_3 then (if x6_3 < ((rd_L1 l0 x4_1).length : Int) then (spec_LeastOf.l1 k3 l0 x4_1 ((rd (rd_L1 l0 x4_1) x6_3) == 1) (wrap64 (x6_3 + 1))) else (none)) else (none)) else (none)) else (none)) = some (r1, r2) := by rw [if_pos rfl] at H; exact H
                    clear H
                    have H := H1
                    clear H1
                    by_cases c8 : 0 ≤ x4_1
                    · rw [if_pos c8] at H
                      have c8b0 : decide (0 ≤ x4_1) = true := decide_eq_true c8
                      clear c8
                      by_cases c9 : x4_1 < (l0.length : Int)
                      · rw [if_pos c9] at H
                        have c9b0 : decide (x4_1 < (l0.length : Int)) = true := decide_eq_true c9
                        clear c9
                        by_cases c10 : 0 ≤ x6_3
                        · rw [if_pos c10] at H
                          have c10b0 : decide (0 ≤ x6_3) = true := decide_eq_true c10
                          clear c10
                          by_cases c11 : x6_3 < ((rd_L1 l0 x4_1).length : Int)
                          · rw [if_pos c11] at H
                            have c11b0 : decide (x6_3 < ((rd_L1 l0 x4_1).length : Int)) = true := decide_eq_true c11
                            clear c11
                            have H' := Aside0.mk H
                            clear H
                            have p158 : 0 ≤ (x4_1 : Int) := of_decide_eq_true (by first | (with_reducible assumption) | assumption)
                            have q158 : x4_1 < (l0.length : Int) := of_decide_eq_true (by first | (with_reducible assumption) | assumption)
                            obtain ⟨ad158, A158_0, c158_0, e158, hx158_0, hl158_0, hi158_0⟩ := at_L1 HR0.out x4_1 p158 q158
                            cases e158
                            have HR158_0 := Aside0.mk hi158_0
                            have HC158_0 := Aside0.mk hl158_0
                            clear hi158_0 hl158_0
                            replace p158 := eq_true p158
                            replace q158 := eq_true q158
                            have p159 : 0 ≤ (x6_3 : Int) := of_decide_eq_true (by first | (with_reducible assumption) | assumption)
                            have q159 : x6_3 < ((rd_L1 l0 x4_1).length : Int) := of_decide_eq_true (by first | (with_reducible assumption) | assumption)
                            obtain ⟨ad159, e159, hx159_0⟩ := Kd.at_int HR158_0.out x6_3 p159 q159
                            cases e159
                            replace p159 := eq_true p159
                            replace q159 := eq_true q159
                            go_wp2
                            go_roundg k3
                            case measure => have := HK1.out; have := HJ1.out; have := HK3.out; omega
                            case rel => exact ⟨(((rd (rd_L1 l0 x4_1) x6_3) == 1)), (wrap64 (x6_3 + 1)), (by first | rfl | (simp; done) | (simp [*]; done)), (by first | rfl | (simp; done) | (simp [*]; done)), H', ⟨by have := HK1.out; have := HJ1.out; have := HK3.out; omega⟩, by repeat (first | exact Drawn0.refl _ | apply Drawn0.step)⟩
                          · rw [if_neg c11] at H
                            exact absurd H (by simp)
                        · rw [if_neg c10] at H
                          exact absurd H (by simp)
                      · rw [if_neg c9] at H
                        exact absurd H (by simp)
                    · rw [if_neg c8] at H
                      exact absurd H (by simp)
                  · replace c7 := Bool.eq_false_iff.mpr c7
                    subst c7
                    have H1 : (spec_LeastOf.l1 k3 l0 x4_1 false (wrap64 (x6_3 + 1))) = some (r1, r2) := by rw [if_neg (show ¬ (false = true) by decide)] at H; exact H
                    clear H
                    have H := H1
                    clear H1
                    have H' := Aside0.mk H
                    clear H
                    go_wp2
                    go_roundg k3
                    case measure => have := HK1.out; have := HJ1.out; have := HK3.out; omega
                    case rel => exact ⟨(false), (wrap64 (x6_3 + 1)), (by first | rfl | (simp; done) | (simp [*]; done)), (by first | rfl | (simp; done) | (simp [*]; done)), H', ⟨by have := HK1.out; have := HJ1.out; have := HK3.out; omega⟩, by repeat (first | exact Drawn0.refl _ | apply Drawn0.step)⟩
                · rw [if_neg c6] at H
                  have c6b0 : decide (x6_3 < (l0.length : Int)) = false := decide_eq_false c6
                  clear c6
                  by_cases c12 : x5_3 = true
                  · subst c12
                    have H1 : (some (x4_1, true)) = some (r1, r2) := by rw [if_pos rfl] at H; exact H
                    clear H
                    have H := H1
                    clear H1
                    simp only [Option.some.injEq, Prod.mk.injEq] at H
                    obtain ⟨rfl, rfl⟩ := H
                    go_wp2
                    go_ret2
                    exact ⟨by first | rfl | (simp; done) | (simp [*]; done), by repeat (first | exact Drawn0.refl _ | apply Drawn0.step)⟩
                  · replace c12 := Bool.eq_false_iff.mpr c12
                    subst c12
                    have H1 : (spec_LeastOf.l0 k3 l0 (wrap64 (x4_1 + 1))) = some (r1, r2) := by rw [if_neg (show ¬ (false = true) by decide)] at H; exact H
                    clear H
                    have H := H1
                    clear H1
                    have H' := Aside0.mk H
                    clear H
                    go_wp2
                    go_roundg k3
                    case measure => have := HK1.out; have := HJ1.out; have := HK3.out; omega
                    case rel => exact ⟨(wrap64 (x4_1 + 1)), (by first | rfl | (simp; done) | (simp [*]; done)), H', ⟨by have := HK1.out; have := HJ1.out; have := HK3.out; omega⟩, by repeat (first | exact Drawn0.refl _ | apply Drawn0.step)⟩
          · replace c5 := Bool.eq_false_iff.mpr c5
            subst c5
            have H1 : (some ((-1), false)) = some (r1, r2) := by rw [if_neg (show ¬ (false = true) by decide)] at H; exact H
            clear H
            have H := H1
            clear H1
            simp only [Option.some.injEq, Prod.mk.injEq] at H
            obtain ⟨rfl, rfl⟩ := H
            go_wp2
            go_ret2
            exact ⟨by first | rfl | (simp; done) | (simp [*]; done), by repeat (first | exact Drawn0.refl _ | apply Drawn0.step)⟩
end Go.Proofs.Ytjoadckkdophnaa.Print
end
