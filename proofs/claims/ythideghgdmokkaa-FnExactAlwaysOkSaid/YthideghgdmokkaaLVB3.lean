/- Part 3 of what is common to several claims of this seat: SameOkL, AlwaysOkL. -/
import Derived.Test.YthideghgdmokkaaLVB2
import Derived.Below
import Derived.Deep.Draws
import Derived.Deep.AppendLies
import Derived.Maps.AppendAt
import Derived.OwnWalk
import Derived.Laws.BytesArg
import Derived.Laws.MakeOwn
import Derived.Laws.OwnMore
import Derived.Deep.OwnRows
import Derived.Tactics
import Derived.Lib.ConvBytes
import Derived.Laws.Slices
import Derived.WalkKit
import Derived.KernelRfl
import Derived.RowKit3
import Derived.Deep.LoopGhost
import Derived.Deep.QuietTactic
import Derived.BigQuiet
import Derived.WideLaws
import Derived.Deep.DeepCutAuto
import Derived.Deep.CutBlock
import Derived.Deep.RegionHeld3
import Derived.Laws.Rows
import Derived.Lib.AppendStr
import Derived.ArgAppend
import Derived.Laws.IdiomCopy
import Derived.RowKit
import Derived.OrdersHeld
import Derived.Laws.BitsLemmas
import Derived.Test.YthideghgdmokkaaProg
section
namespace Go.Proofs.Ythideghgdmokkaa.Print
open Go.RowKit Go.Proofs.YthideghgdmokkaaW.PrintWords Go.Proofs.YthideghgdmokkaaW.PrintLast Go.Proofs.YthideghgdmokkaaW.PrintMore
attribute [local go_sem] max2_int min2_int max_two min_two max_three min_three max_four min_four   -- for this text's walks alone
set_option linter.unusedVariables false
set_option linter.unusedSimpArgs false
def errW : Option Int → Value
 | none => .nilIface
 | some c => .iface 0 (.int .i64 c)
theorem errW_none : errW none = .nilIface := rfl
theorem errW_some (c : Int) : errW (some c) = .iface 0 (.int .i64 c) := rfl
theorem info3 : (Try.prog.info? 3).map (fun i => (i.zero, i.size, i.bytes)) = some (some (.int .i64 0), 1, 8) := by kernel_rfl
theorem info23 : (Try.prog.info? 23).map (fun i => (i.zero, i.size, i.bytes)) = some (some (.slice none 0 0), 1, 24) := by kernel_rfl
def rd_L1 (xs : List (List Int)) (i : Int) : (List Int) := xs.getD i.toNat ([] : List Int)
theorem at_L1 {w : World} {A : Option Addr} {n : Nat} {xs : List (List Int)} (h : Kd.C (Kd.slice 3 (Kd.int .i64)) w A n xs) (i : Int) (h0 : 0 ≤ i) (h1 : i < n) : ∃ ad A0 c0, A = some ad ∧ w.cell? (ad.add i.toNat) = some (.slice A0 (rd_L1 xs i).length c0) ∧ (rd_L1 xs i).length ≤ c0 ∧ (Kd.int .i64).C w A0 (rd_L1 xs i).length (rd_L1 xs i) := by
 obtain ⟨ad, c, e, _, hK, hc0⟩ := Kd.C_get h ([] : List Int) i h0 h1
 have hc : ∀ j u, c[j]? = some u → w.cell? (ad.add (i.toNat * 1 + j)) = some u := hc0
 obtain ⟨A0, c0, rfl, l0, g0⟩ := hK
 exact ⟨ad, A0, c0, e, by have hq := hc 0 _ rfl; rwa [Nat.mul_one, Nat.add_zero] at hq, l0, g0⟩
end Go.Proofs.Ythideghgdmokkaa.Print
end
section
namespace Oml
universe u
structure OL (α : Type u) where
  le : α → α → Prop
  meet : α → α → α
  join : α → α → α
  neg : α → α
  bot : α
  le_refl : ∀ a, le a a
  le_antisymm : ∀ a b, le a b → le b a → a = b
  le_trans : ∀ a b c, le a b → le b c → le a c
  meet_l : ∀ a b, le (meet a b) a
  meet_r : ∀ a b, le (meet a b) b
  le_meet : ∀ a b c, le c a → le c b → le c (meet a b)
  join_l : ∀ a b, le a (join a b)
  join_r : ∀ a b, le b (join a b)
  join_le : ∀ a b c, le a c → le b c → le (join a b) c
  neg_neg : ∀ a, neg (neg a) = a
  neg_anti : ∀ a b, le a b → le (neg b) (neg a)
  meet_neg : ∀ a, meet a (neg a) = bot
  bot_le : ∀ a, le bot a
namespace OL
variable {α : Type u} (L : OL α)
def top : α := L.neg L.bot
theorem le_top (a : α) : L.le a L.top := by
  have h := L.neg_anti _ _ (L.bot_le (L.neg a))
  rw [L.neg_neg] at h
  exact h
theorem neg_le_iff (a b : α) : L.le (L.neg a) b ↔ L.le (L.neg b) a := by
  constructor <;> intro h
  · have := L.neg_anti _ _ h; rwa [L.neg_neg] at this
  · have := L.neg_anti _ _ h; rwa [L.neg_neg] at this
theorem join_comm (a b : α) : L.join a b = L.join b a :=
  L.le_antisymm _ _ (L.join_le _ _ _ (L.join_r _ _) (L.join_l _ _)) (L.join_le _ _ _ (L.join_r _ _) (L.join_l _ _))
theorem meet_eq_l (a b : α) : L.meet a b = a ↔ L.le a b := by
  constructor
  · intro h; rw [← h]; exact L.meet_r _ _
  · intro h; exact L.le_antisymm _ _ (L.meet_l _ _) (L.le_meet _ _ _ (L.le_refl _) h)
theorem neg_meet (a b : α) : L.neg (L.meet a b) = L.join (L.neg a) (L.neg b) := by
  apply L.le_antisymm
  · rw [L.neg_le_iff]
    exact L.le_meet _ _ _ (by rw [L.neg_le_iff]; exact L.join_l _ _) (by rw [L.neg_le_iff]; exact L.join_r _ _)
  · exact L.join_le _ _ _ (L.neg_anti _ _ (L.meet_l _ _)) (L.neg_anti _ _ (L.meet_r _ _))
theorem join_neg (a : α) : L.join a (L.neg a) = L.top := by
  have := L.neg_meet a (L.neg a)
  rw [L.meet_neg, L.neg_neg, L.join_comm] at this
  exact this.symm
theorem neg_top : L.neg L.top = L.bot := L.neg_neg _
theorem meet_top (a : α) : L.meet a L.top = a := (L.meet_eq_l _ _).2 (L.le_top _)
def Keeps : Prop := ∀ a b, L.le a b → L.join a (L.meet b (L.neg a)) = b
def C (a b : α) : Prop := L.join (L.meet a b) (L.meet a (L.neg b)) = a
def Split (a b c : α) : Prop := L.meet a (L.join b c) = L.join (L.meet a b) (L.meet a c)
def Boolean : Prop := ∀ a b c, L.Split a b c
variable {L}
theorem Boolean.C (B : L.Boolean) (a b : α) : L.C a b := by
  have := B a b (L.neg b)
  unfold Split at this
  rw [L.join_neg, L.meet_top] at this
  exact this.symm
structure High (L : OL α) (h : α → Nat) : Prop where
  mono : ∀ a b, L.le a b → a ≠ b → h a < h b
  step : ∀ a, h a ≠ 0 → ∃ b, L.le b a ∧ b ≠ a ∧ h b + 1 = h a
theorem High.le {h : α → Nat} (H : L.High h) {a b : α} (k : L.le a b) : h a ≤ h b := by
  by_cases e : a = b
  · rw [e]; exact Nat.le_refl _
  · exact Nat.le_of_lt (H.mono _ _ k e)
theorem High.eq {h : α → Nat} (H : L.High h) {a b : α} (k : L.le a b) (e : h b ≤ h a) : a = b := by
  apply Classical.byContradiction
  intro ne
  have := H.mono _ _ k ne
  omega
structure State (L : OL α) (s : α → Bool) : Prop where
  top : s L.top = true
  neg : ∀ a, s (L.neg a) = !s a
  join : ∀ a b, L.le a (L.neg b) → s (L.join a b) = (s a || s b) ∧ (s a && s b) = false
theorem State.bot {s : α → Bool} (S : L.State s) : s L.bot = false := by
  have := S.neg L.top; rw [L.neg_top, S.top] at this; exact this
theorem State.up (K : L.Keeps) {s : α → Bool} (S : L.State s) {a b : α} (h : L.le a b) (ha : s a = true) : s b = true := by
  have e := K a b h
  have := (S.join a (L.meet b (L.neg a)) (by rw [L.neg_meet, L.neg_neg]; exact L.join_r _ _)).1
  rw [e, ha] at this
  simpa using this
end OL
end Oml
end
section
namespace Oml
def at1 (N : List Int) (a : Nat) : Int := N.getD a 0
def at2 (U : List (List Int)) (a b : Nat) : Int := (U.getD a []).getD b 0
def leB (U : List (List Int)) (a b : Nat) : Bool := at2 U a b == 1
def allN (n : Nat) (p : Nat → Bool) : Bool := (List.range n).all p
def findN (n : Nat) (p : Nat → Bool) : Option Nat := (List.range n).find? p
theorem allN_iff {n : Nat} {p : Nat → Bool} : allN n p = true ↔ ∀ i, i < n → p i = true := by
  simp [allN, List.all_eq_true]
theorem allN_false {n : Nat} {p : Nat → Bool} : allN n p = false ↔ ∃ i, i < n ∧ p i = false := by
  rw [← Bool.not_eq_true, allN_iff]
  constructor
  · intro h
    apply Classical.byContradiction
    intro k
    exact h fun i hi => by
      cases e : p i
      · exact absurd ⟨i, hi, e⟩ k
      · rfl
  · rintro ⟨i, hi, e⟩ h
    rw [h i hi] at e
    exact absurd e (by simp)
theorem findN_some {n : Nat} {p : Nat → Bool} {i : Nat} (h : findN n p = some i) : i < n ∧ p i = true := by
  have h1 := List.find?_some h
  have h2 := List.mem_of_find?_eq_some h
  exact ⟨by simpa using h2, h1⟩
theorem findN_none {n : Nat} {p : Nat → Bool} : findN n p = none ↔ ∀ i, i < n → p i = false := by
  unfold findN
  rw [List.find?_eq_none]
  constructor
  · intro h i hi
    have := h i (by simpa using hi)
    simpa using this
  · intro h i hi
    have := h i (by simpa using hi)
    simp [this]
theorem findN_first {n : Nat} {p : Nat → Bool} {i : Nat} (h : findN n p = some i) : ∀ j, j < i → p j = false := by
  unfold findN at h
  rw [List.find?_range_eq_some] at h
  intro j hj
  have := h.2.2 j hj
  simpa using this
theorem findN_of {n : Nat} {p : Nat → Bool} {i : Nat} (hi : i < n) (h : p i = true) (hf : ∀ j, j < i → p j = false) : findN n p = some i := by
  unfold findN
  rw [List.find?_range_eq_some]
  exact ⟨h, by simpa using hi, fun j hj => by simp [hf j hj]⟩
theorem findN_uniq {n : Nat} {p : Nat → Bool} {i : Nat} (hi : i < n) (h : p i = true) (hu : ∀ j, j < n → p j = true → j = i) : findN n p = some i := by
  refine findN_of hi h fun j hj => ?_
  cases e : p j
  · rfl
  · have := hu j (by omega) e; omega
structure Order (U : List (List Int)) : Prop where
  pos : 1 ≤ U.length
  small : U.length ≤ 12
  row : ∀ a, a < U.length → (U.getD a []).length = U.length
  bit : ∀ a b, a < U.length → b < U.length → at2 U a b = 0 ∨ at2 U a b = 1
  refl : ∀ a, a < U.length → leB U a a = true
  anti : ∀ a b, a < U.length → b < U.length → leB U a b = true → leB U b a = true → a = b
  trans : ∀ a b c, a < U.length → b < U.length → c < U.length → leB U a b = true → leB U b c = true → leB U a c = true
def orderB (U : List (List Int)) : Bool :=
  decide (1 ≤ U.length) && (decide (U.length ≤ 12) && (allN U.length (fun a => (U.getD a []).length == U.length && allN U.length fun b => at2 U a b == 0 || at2 U a b == 1) &&
    allN U.length fun a => leB U a a && allN U.length fun b => ((a == b) || !(leB U a b && leB U b a)) && allN U.length fun c => !(leB U a b && leB U b c) || leB U a c))
theorem orderB_iff {U : List (List Int)} : orderB U = true ↔ Order U := by
  unfold orderB
  simp only [Bool.and_eq_true, decide_eq_true_eq, allN_iff, Bool.or_eq_true, beq_iff_eq, Bool.not_eq_true']
  constructor
  · rintro ⟨h1, h2, h3, h4⟩
    refine ⟨h1, h2, fun a ha => (h3 a ha).1, fun a b ha hb => (h3 a ha).2 b hb, fun a ha => (h4 a ha).1, fun a b ha hb k1 k2 => ?_, fun a b c ha hb hc k1 k2 => ?_⟩
    · rcases ((h4 a ha).2 b hb).1 with e | e
      · exact e
      · rw [k1, k2] at e; exact absurd e (by simp)
    · rcases ((h4 a ha).2 b hb).2 c hc with e | e
      · rw [k1, k2] at e; exact absurd e (by simp)
      · exact e
  · intro O
    refine ⟨O.pos, O.small, fun a ha => ⟨O.row a ha, fun b hb => O.bit a b ha hb⟩, fun a ha => ⟨O.refl a ha, fun b hb => ⟨?_, fun c hc => ?_⟩⟩⟩
    · by_cases e : a = b
      · exact .inl e
      · right
        cases k1 : leB U a b <;> cases k2 : leB U b a <;> simp
        exact e (O.anti a b ha hb k1 k2)
    · cases k1 : leB U a b <;> cases k2 : leB U b c <;> simp
      exact O.trans a b c ha hb hc k1 k2
theorem Order.val {U : List (List Int)} (O : Order U) {a b : Nat} (ha : a < U.length) (hb : b < U.length) : at2 U a b = if leB U a b = true then 1 else 0 := by
  unfold leB
  rcases O.bit a b ha hb with e | e <;> simp [e]
def meetP (U : List (List Int)) (a b c : Nat) : Bool := leB U c a && (leB U c b && allN U.length fun d => !(leB U d a && leB U d b) || leB U d c)
def joinP (U : List (List Int)) (a b c : Nat) : Bool := leB U a c && (leB U b c && allN U.length fun d => !(leB U a d && leB U b d) || leB U c d)
def meetO (U : List (List Int)) (a b : Nat) : Option Nat := findN U.length (meetP U a b)
def joinO (U : List (List Int)) (a b : Nat) : Option Nat := findN U.length (joinP U a b)
def leastO (U : List (List Int)) : Option Nat := findN U.length fun a => allN U.length fun b => leB U a b
def optI (o : Option Nat) : Int := match o with | some m => (m : Int) | none => -1
theorem meetP_iff {U : List (List Int)} {a b c : Nat} : meetP U a b c = true ↔ leB U c a = true ∧ leB U c b = true ∧ ∀ d, d < U.length → leB U d a = true → leB U d b = true → leB U d c = true := by
  unfold meetP
  simp only [Bool.and_eq_true, allN_iff, Bool.or_eq_true, Bool.not_eq_true', Bool.and_eq_false_iff]
  constructor
  · rintro ⟨h1, h2, h3⟩
    exact ⟨h1, h2, fun d hd k1 k2 => by rcases h3 d hd with (e | e) | e <;> simp_all⟩
  · rintro ⟨h1, h2, h3⟩
    refine ⟨h1, h2, fun d hd => ?_⟩
    cases k1 : leB U d a
    · exact .inl (.inl rfl)
    · cases k2 : leB U d b
      · exact .inl (.inr rfl)
      · exact .inr (h3 d hd k1 k2)
theorem joinP_iff {U : List (List Int)} {a b c : Nat} : joinP U a b c = true ↔ leB U a c = true ∧ leB U b c = true ∧ ∀ d, d < U.length → leB U a d = true → leB U b d = true → leB U c d = true := by
  unfold joinP
  simp only [Bool.and_eq_true, allN_iff, Bool.or_eq_true, Bool.not_eq_true', Bool.and_eq_false_iff]
  constructor
  · rintro ⟨h1, h2, h3⟩
    exact ⟨h1, h2, fun d hd k1 k2 => by rcases h3 d hd with (e | e) | e <;> simp_all⟩
  · rintro ⟨h1, h2, h3⟩
    refine ⟨h1, h2, fun d hd => ?_⟩
    cases k1 : leB U a d
    · exact .inl (.inl rfl)
    · cases k2 : leB U b d
      · exact .inl (.inr rfl)
      · exact .inr (h3 d hd k1 k2)
theorem Order.meet_eq {U : List (List Int)} (O : Order U) {a b c : Nat} (hc : c < U.length) (h : meetP U a b c = true) : meetO U a b = some c := by
  refine findN_uniq hc h fun j hj e => ?_
  obtain ⟨h1, h2, h3⟩ := meetP_iff.1 h
  obtain ⟨k1, k2, k3⟩ := meetP_iff.1 e
  exact O.anti j c hj hc (h3 j hj k1 k2) (k3 c hc h1 h2)
theorem Order.join_eq {U : List (List Int)} (O : Order U) {a b c : Nat} (hc : c < U.length) (h : joinP U a b c = true) : joinO U a b = some c := by
  refine findN_uniq hc h fun j hj e => ?_
  obtain ⟨h1, h2, h3⟩ := joinP_iff.1 h
  obtain ⟨k1, k2, k3⟩ := joinP_iff.1 e
  exact O.anti j c hj hc (k3 c hc h1 h2) (h3 j hj k1 k2)
structure Logic (U : List (List Int)) (N : List Int) : Prop extends Order U where
  meets : ∀ a b, a < U.length → b < U.length → (meetO U a b).isSome = true
  joins : ∀ a b, a < U.length → b < U.length → (joinO U a b).isSome = true
  len : N.length = U.length
  ran : ∀ a, a < U.length → 0 ≤ at1 N a ∧ at1 N a < U.length
  inv : ∀ a, a < U.length → at1 N (at1 N a).toNat = a
  comp : ∀ a, a < U.length → meetO U a (at1 N a).toNat = leastO U
  turn : ∀ a b, a < U.length → b < U.length → leB U a b = true → leB U (at1 N b).toNat (at1 N a).toNat = true
def latticeB (U : List (List Int)) : Bool := orderB U && allN U.length fun a => allN U.length fun b => (meetO U a b).isSome && (joinO U a b).isSome
def logicB (U : List (List Int)) (N : List Int) : Bool :=
  latticeB U && (N.length == U.length && (allN U.length (fun a => decide (0 ≤ at1 N a) && decide (at1 N a < U.length)) &&
    allN U.length fun a => at1 N (at1 N a).toNat == (a : Int) && (meetO U a (at1 N a).toNat == leastO U && allN U.length fun b => !leB U a b || leB U (at1 N b).toNat (at1 N a).toNat)))
theorem latticeB_order {U : List (List Int)} (h : latticeB U = true) : Order U := by
  unfold latticeB at h
  exact orderB_iff.1 (Bool.and_eq_true_iff.1 h).1
theorem logicB_iff {U : List (List Int)} {N : List Int} : logicB U N = true ↔ Logic U N := by
  unfold logicB latticeB
  simp only [Bool.and_eq_true, decide_eq_true_eq, allN_iff, beq_iff_eq, Bool.or_eq_true, Bool.not_eq_true', orderB_iff]
  constructor
  · rintro ⟨⟨h0, h1⟩, h2, h3, h4⟩
    refine { toOrder := h0, meets := fun a b ha hb => (h1 a ha b hb).1, joins := fun a b ha hb => (h1 a ha b hb).2, len := h2, ran := h3, inv := fun a ha => (h4 a ha).1, comp := fun a ha => (h4 a ha).2.1, turn := fun a b ha hb k => ?_ }
    rcases (h4 a ha).2.2 b hb with e | e
    · rw [k] at e; exact absurd e (by simp)
    · exact e
  · intro L
    refine ⟨⟨L.toOrder, fun a ha b hb => ⟨L.meets a b ha hb, L.joins a b ha hb⟩⟩, L.len, L.ran, fun a ha => ⟨L.inv a ha, L.comp a ha, fun b hb => ?_⟩⟩
    cases k : leB U a b
    · exact .inl rfl
    · exact .inr (L.turn a b ha hb k)
section
variable {U : List (List Int)} {N : List Int} (L : Logic U N)
include L in
theorem Logic.least_some : ∃ m, leastO U = some m := by
  have h0 : 0 < U.length := L.pos
  have := L.comp 0 h0
  obtain ⟨m, hm⟩ := Option.isSome_iff_exists.1 (L.meets 0 (at1 N 0).toNat h0 (by have := L.ran 0 h0; omega))
  exact ⟨m, by rw [← this, hm]⟩
def Logic.no : Fin U.length := ⟨(leastO U).get (by obtain ⟨m, h⟩ := L.least_some; rw [h]; rfl), (findN_some (Option.some_get _).symm).1⟩
end
end Oml
end
section
namespace Go.Proofs.Ythideghgdmokkaa.Print
open Oml
def turnL (U : List (List Int)) : List (List Int) := (List.range U.length).map fun a => (List.range U.length).map fun b => at2 U b a
end Go.Proofs.Ythideghgdmokkaa.Print
end
section
namespace Go.Proofs.Ythideghgdmokkaa.Print
open Go.RowKit Go.Proofs.YthideghgdmokkaaW.PrintWords Go.Proofs.YthideghgdmokkaaW.PrintLast Go.Proofs.YthideghgdmokkaaW.PrintMore
set_option linter.unusedVariables false
set_option linter.unusedSimpArgs false
open Oml
def tabI (n : Nat) (f : Nat → Nat → Int) : List (List Int) := (List.range n).map fun a => (List.range n).map fun b => f a b
def mI (U : List (List Int)) (a b : Nat) : Int := optI (meetO U a b)
def jI (U : List (List Int)) (a b : Nat) : Int := optI (joinO U a b)
def rowT (f : Nat → Nat → Int) (a b : Nat) : List Int := (List.range b).map fun b => f a b
def tabT (n : Nat) (f : Nat → Nat → Int) (a : Nat) : List (List Int) := (List.range a).map fun a => rowT f a n
theorem rowT_succ (f : Nat → Nat → Int) (a b : Nat) : rowT f a (b + 1) = rowT f a b ++ [f a b] := by simp [rowT, List.range_succ]
theorem tabT_succ (n : Nat) (f : Nat → Nat → Int) (a : Nat) : tabT n f (a + 1) = tabT n f a ++ [rowT f a n] := by simp [tabT, List.range_succ]
theorem rowT_length (f : Nat → Nat → Int) (a b : Nat) : (rowT f a b).length = b := by simp [rowT]
theorem tabT_length (n : Nat) (f : Nat → Nat → Int) (a : Nat) : (tabT n f a).length = a := by simp [tabT]
theorem tabI_length (n : Nat) (f : Nat → Nat → Int) : (tabI n f).length = n := by simp [tabI]
theorem wrap_small {x : Int} (h0 : 0 ≤ x) (h : x < 1000000) : wrap64 x = x := by unfold wrap64; omega
theorem reads_one {W : World} {p : Addr} {v : Value} {row : List Int} (h : W.cell? p = some v) : ReadsRow (fun x cs => x = row ∧ cs = [v]) 1 W (some p) 1 [row] := by
  refine ⟨rfl, by omega, fun _ => ⟨p, rfl, fun j q hq => ?_⟩⟩
  have hj : j = 0 := by
    rcases j with _ | j
    · rfl
    · simp at hq
  subst hj
  have hq' : row = q := by simpa using hq
  refine ⟨[v], rfl, ⟨hq'.symm, rfl⟩, fun i u hu => ?_⟩
  rcases i with _ | i
  · have : v = u := by simpa using hu
    subst this
    simpa [Addr.add] using h
  · simp at hu
theorem grown_cell {W w1 : World} {row : Option Nat} (hg : W.grownBy w1 row) {p : Addr} {v : Value} (h : W.cell? p = some v) (hne : some p.block ≠ row) : w1.cell? p = some v := by
  have := hg.block p.block (World.block_lt_of_cell? W p h) hne
  unfold World.cell? at *
  rw [this]; exact h
theorem infoInt : (Try.prog.info? 3).map (fun i => (i.zero, i.size, i.bytes)) = some (some (.int .i64 0), 1, 8) := by kernel_rfl
theorem infoRow : (Try.prog.info? 23).map (fun i => (i.zero, i.size, i.bytes)) = some (some (.slice none 0 0), 1, 24) := by kernel_rfl
def AlgAt (W : World) (g : Nat) (U A O : List (List Int)) (N : List Int) (no yes : Int) : Prop :=
  ∃ A0 c0 A1 c1 A2 c2 A3 c3, W.heap[g]? = some (.cells #[.slice A0 U.length c0, .slice A1 A.length c1, .slice A2 O.length c2, .slice A3 N.length c3, .int .i64 no, .int .i64 yes] 81 (0, 0)) ∧
    (U.length ≤ c0 ∧ A.length ≤ c1 ∧ O.length ≤ c2 ∧ N.length ≤ c3) ∧ Kd.C (Kd.slice 3 (Kd.int .i64)) W A0 U.length U ∧ Kd.C (Kd.slice 3 (Kd.int .i64)) W A1 A.length A ∧ Kd.C (Kd.slice 3 (Kd.int .i64)) W A2 O.length O ∧ Kd.C (Kd.int .i64) W A3 N.length N
def AlgOf (W : World) (g : Nat) (U : List (List Int)) (N : List Int) : Prop :=
  AlgAt W g U (tabI U.length (mI U)) (tabI U.length (jI U)) N (optI (leastO U)) (at1 N (optI (leastO U)).toNat)
theorem AlgAt.below {W W1 : World} {g : Nat} {U A O : List (List Int)} {N : List Int} {no yes : Int} (h : AlgAt W g U A O N no yes) (hb : Below W.heap.size W W1) : AlgAt W1 g U A O N no yes := by
  obtain ⟨A0, c0, A1, c1, A2, c2, A3, c3, h1, hc, k0, k1, k2, k3⟩ := h
  exact ⟨A0, c0, A1, c1, A2, c2, A3, c3, blk_below h1 hb, hc, Kd.C_below k0 hb, Kd.C_below k1 hb, Kd.C_below k2 hb, Kd.C_below k3 hb⟩
theorem ints_cell {W : World} {A : Option Addr} {n : Nat} {xs : List Int} (h : Kd.C (Kd.int .i64) W A n xs) (i : Int) (h0 : 0 ≤ i) (h1 : i < n) : ∃ ad, A = some ad ∧ W.cell? (ad.add i.toNat) = some (.int .i64 (at1 xs i.toNat)) := Kd.at_int h i h0 h1
theorem rows_cell {W : World} {A : Option Addr} {n : Nat} {xs : List (List Int)} (h : Kd.C (Kd.slice 3 (Kd.int .i64)) W A n xs) (i : Int) (h0 : 0 ≤ i) (h1 : i < n) :
    ∃ ad Ar cr, A = some ad ∧ W.cell? (ad.add i.toNat) = some (.slice Ar (xs.getD i.toNat []).length cr) ∧ (xs.getD i.toNat []).length ≤ cr ∧ Kd.C (Kd.int .i64) W Ar (xs.getD i.toNat []).length (xs.getD i.toNat []) := by
  obtain ⟨ad, c, e, _, hK, hc0⟩ := Kd.C_get h ([] : List Int) i h0 h1
  have hc : ∀ j u, c[j]? = some u → W.cell? (ad.add (i.toNat * 1 + j)) = some u := hc0
  obtain ⟨Ar, cr, rfl, l0, g0⟩ := hK
  exact ⟨ad, Ar, cr, e, by have hq := hc 0 _ rfl; rwa [Nat.mul_one, Nat.add_zero] at hq, l0, g0⟩
theorem mat_cell {W : World} {A : Option Addr} {n : Nat} {xs : List (List Int)} (h : Kd.C (Kd.slice 3 (Kd.int .i64)) W A n xs) (hr : ∀ a, a < n → (xs.getD a []).length = n) (a b : Int) (ha : 0 ≤ a) (ha' : a < n) (hb : 0 ≤ b) (hb' : b < n) :
    ∃ ad ad' cr, A = some ad ∧ W.cell? (ad.add a.toNat) = some (.slice (some ad') n cr) ∧ W.cell? (ad'.add b.toNat) = some (.int .i64 (at2 xs a.toNat b.toNat)) ∧ n ≤ cr := by
  obtain ⟨ad, Ar, cr, e, hc, hl, hk⟩ := rows_cell h a ha ha'
  have hn := hr a.toNat (by omega)
  rw [hn] at hc hl hk
  obtain ⟨ad', e', hc'⟩ := ints_cell hk b hb hb'
  subst e'
  exact ⟨ad, ad', cr, e, hc, hc', hl⟩
theorem tabI_row (n : Nat) (f : Nat → Nat → Int) : ∀ a, a < n → ((tabI n f).getD a []).length = n := by
  intro a ha
  simp [tabI, List.getD_eq_getElem?_getD, ha]
theorem tabI_at (n : Nat) (f : Nat → Nat → Int) (a b : Nat) (ha : a < n) (hb : b < n) : at2 (tabI n f) a b = f a b := by
  simp [at2, tabI, List.getD_eq_getElem?_getD, ha, hb]
theorem tab_cell {W : World} {A : Option Addr} {n m : Nat} {f : Nat → Nat → Int} (h : Kd.C (Kd.slice 3 (Kd.int .i64)) W A m (tabI n f)) (a b : Int) (ha : 0 ≤ a) (ha' : a < n) (hb : 0 ≤ b) (hb' : b < n) :
    ∃ ad ad' cr, A = some ad ∧ W.cell? (ad.add a.toNat) = some (.slice (some ad') n cr) ∧ W.cell? (ad'.add b.toNat) = some (.int .i64 (f a.toNat b.toNat)) ∧ n ≤ cr := by
  have hm : (tabI n f).length = m := Kd.C_len h
  rw [tabI_length] at hm
  subst hm
  obtain ⟨ad, ad', cr, h1, h2, h3, h4⟩ := mat_cell h (tabI_row n f) a b ha ha' hb hb'
  rw [tabI_at n f _ _ (by omega) (by omega)] at h3
  exact ⟨ad, ad', cr, h1, h2, h3, h4⟩
theorem cell_up {w W : World} {B : Nat} {a : Addr} {v : Value} (h : w.cell? a = some v) (hb : Below B w W) (hB : B = w.heap.size) : W.cell? a = some v := by
  subst hB
  exact (hb.cell (World.block_lt_of_cell? w a h)).trans h
def ToldPost (U : List (List Int)) (N : List Int) (w : World) (e : Ending) (w' : World) : Prop :=
  Below w.heap.size w w' ∧ ((logicB U N = true ∧ ∃ g, e = .returned (.pointer (some ⟨g, 0, none⟩)) ∧ w.heap.size ≤ g ∧ AlgOf w' g U N) ∨ (logicB U N = false ∧ e = .returned (.pointer none)))
end Go.Proofs.Ythideghgdmokkaa.Print
end
section
namespace Go.Proofs.Ythideghgdmokkaa.Print
open Go.RowKit Go.Proofs.YthideghgdmokkaaW.PrintWords Go.Proofs.YthideghgdmokkaaW.PrintLast Go.Proofs.YthideghgdmokkaaW.PrintMore
set_option linter.unusedVariables false
set_option linter.unusedSimpArgs false
open Oml
theorem Ev.down {ρ : Type} {g : Nat → Nat → Option ρ} {R : Nat → ρ} (n : Nat) (hend : Ev (fun k => g k n) (R n)) (hstep : ∀ i, i < n → Ev (fun k => g k (i + 1)) (R (i + 1)) → Ev (fun k => g k i) (R i)) : ∀ i, i ≤ n → Ev (fun k => g k i) (R i) := by
  intro i hi
  obtain ⟨d, hd⟩ : ∃ d, n = i + d := ⟨n - i, by omega⟩
  induction d generalizing i with
  | zero => obtain rfl : n = i := by omega
            exact hend
  | succ d ih => exact hstep i (by omega) (ih (i + 1) (by omega) (by omega))
theorem Ev.eq {α : Type} {g : Nat → Option α} {r r' : α} (h : Ev g r) (e : r = r') : Ev g r' := e ▸ h
def allFrom (n : Nat) (p : Nat → Bool) (i : Nat) : Bool := (List.range' i (n - i)).all p
def fstFrom (n : Nat) (p : Nat → Bool) (i : Nat) : Option Nat := (List.range' i (n - i)).find? p
theorem allFrom_lt {n : Nat} {p : Nat → Bool} {i : Nat} (h : i < n) : allFrom n p i = (p i && allFrom n p (i + 1)) := by
  unfold allFrom
  obtain ⟨d, rfl⟩ : ∃ d, n = i + (d + 1) := ⟨n - i - 1, by omega⟩
  rw [show i + (d + 1) - i = d + 1 by omega, show i + (d + 1) - (i + 1) = d by omega, List.range'_succ, List.all_cons]
theorem allFrom_ge {n : Nat} {p : Nat → Bool} {i : Nat} (h : n ≤ i) : allFrom n p i = true := by
  unfold allFrom; rw [show n - i = 0 by omega]; rfl
theorem allFrom_zero (n : Nat) (p : Nat → Bool) : allFrom n p 0 = allN n p := by
  unfold allFrom allN; rw [Nat.sub_zero, List.range_eq_range']
theorem fstFrom_lt {n : Nat} {p : Nat → Bool} {i : Nat} (h : i < n) : fstFrom n p i = if p i = true then some i else fstFrom n p (i + 1) := by
  unfold fstFrom
  obtain ⟨d, rfl⟩ : ∃ d, n = i + (d + 1) := ⟨n - i - 1, by omega⟩
  rw [show i + (d + 1) - i = d + 1 by omega, show i + (d + 1) - (i + 1) = d by omega, List.range'_succ, List.find?_cons]
  cases p i <;> simp
theorem fstFrom_ge {n : Nat} {p : Nat → Bool} {i : Nat} (h : n ≤ i) : fstFrom n p i = none := by
  unfold fstFrom; rw [show n - i = 0 by omega]; rfl
theorem fstFrom_zero (n : Nat) (p : Nat → Bool) : fstFrom n p 0 = findN n p := by
  unfold fstFrom findN; rw [Nat.sub_zero, List.range_eq_range']
theorem wrap_nat {i : Nat} (h : i < 4611686018427387904) : wrap64 ((i : Int) + 1) = ((i + 1 : Nat) : Int) := by unfold wrap64; omega
theorem Ev.succ {α : Type} {g : Nat → Option α} {r : α} (h : Ev (fun k => g (k + 1)) r) : Ev g r := Ev.step (fun _ => rfl) h
theorem Ev.ite_pos {α : Type} {c : Prop} [Decidable c] {a b : Nat → Option α} {r : α} (h : c) (k : Ev a r) : Ev (fun n => if c then a n else b n) r := by simpa only [if_pos h] using k
theorem Ev.ite_neg {α : Type} {c : Prop} [Decidable c] {a b : Nat → Option α} {r : α} (h : ¬ c) (k : Ev b r) : Ev (fun n => if c then a n else b n) r := by simpa only [if_neg h] using k
theorem Ev.pure {α : Type} {o : Option α} {r : α} (h : o = some r) : Ev (fun _ => o) r := h ▸ Ev.now r
theorem Ev.pbind {α β : Type} {g : Option α} {f : Nat → α → Option β} {a : α} {r : β} (h : g = some a) (k : Ev (fun n => f n a) r) : Ev (fun n => g.bind (f n)) r := Ev.bind (g := fun _ => g) (Ev.pure h) k
theorem Ev.all {ρ : Type} {g : Nat → Int → Option ρ} {n : Nat} (p : Nat → Bool) {go stop : ρ} (hn : n < 4611686018427387904) (hend : (∀ i, i < n → p i = true) → Ev (fun k => g k (n : Int)) go)
    (hstep : ∀ i, i < n → (∀ j, j < i → p j = true) → ∀ R, (p i = true → Ev (fun k => g k (wrap64 ((i : Int) + 1))) R) → Ev (fun k => g k (i : Int)) (if p i = true then R else stop)) :
    Ev (fun k => g k 0) (if allN n p = true then go else stop) := by
  have key : ∀ d i, i + d = n → (∀ j, j < i → p j = true) → Ev (fun k => g k (i : Int)) (if allFrom n p i = true then go else stop) := by
    intro d
    induction d with
    | zero =>
      intro i hi hj
      obtain rfl : i = n := by omega
      rw [allFrom_ge (Nat.le_refl _), if_pos rfl]
      exact hend hj
    | succ d ih =>
      intro i hi hj
      rw [allFrom_lt (by omega)]
      refine Ev.eq (hstep i (by omega) hj (if allFrom n p (i + 1) = true then go else stop) fun hp => ?_) ?_
      · rw [wrap_nat (by omega)]
        exact ih (i + 1) (by omega) fun j hj' => by
          rcases Nat.lt_or_ge j i with h | h
          · exact hj j h
          · obtain rfl : j = i := by omega
            exact hp
      · cases p i <;> simp
  have := key n 0 (by omega) fun _ h => absurd h (Nat.not_lt_zero _)
  rw [allFrom_zero] at this
  exact this
theorem Ev.find {ρ : Type} {g : Nat → Int → Option ρ} {n : Nat} (p : Nat → Bool) {none' : ρ} {some' : Nat → ρ} (hn : n < 4611686018427387904) (hend : (∀ i, i < n → p i = false) → Ev (fun k => g k (n : Int)) none')
    (hstep : ∀ i, i < n → (∀ j, j < i → p j = false) → ∀ R, (p i = false → Ev (fun k => g k (wrap64 ((i : Int) + 1))) R) → Ev (fun k => g k (i : Int)) (if p i = true then some' i else R)) :
    Ev (fun k => g k 0) (match findN n p with | some i => some' i | none => none') := by
  have key : ∀ d i, i + d = n → (∀ j, j < i → p j = false) → Ev (fun k => g k (i : Int)) (match fstFrom n p i with | some i => some' i | none => none') := by
    intro d
    induction d with
    | zero =>
      intro i hi hj
      obtain rfl : i = n := by omega
      rw [fstFrom_ge (Nat.le_refl _)]
      exact hend hj
    | succ d ih =>
      intro i hi hj
      rw [fstFrom_lt (by omega)]
      refine Ev.eq (hstep i (by omega) hj (match fstFrom n p (i + 1) with | some i => some' i | none => none') fun hp => ?_) ?_
      · rw [wrap_nat (by omega)]
        exact ih (i + 1) (by omega) fun j hj' => by
          rcases Nat.lt_or_ge j i with h | h
          · exact hj j h
          · obtain rfl : j = i := by omega
            exact hp
      · cases p i <;> simp
  have := key n 0 (by omega) fun _ h => absurd h (Nat.not_lt_zero _)
  rw [fstFrom_zero] at this
  exact this
theorem Ev.loop {σ ρ : Type} {g : Nat → σ → Int → Option ρ} (n : Nat) (I : Nat → σ → Prop) {R : ρ} (hn : n < 4611686018427387904) (hend : ∀ s, I n s → Ev (fun k => g k s (n : Int)) R)
    (hstep : ∀ i s, i < n → I i s → ∃ s', I (i + 1) s' ∧ (Ev (fun k => g k s' (wrap64 ((i : Int) + 1))) R → Ev (fun k => g k s (i : Int)) R)) : ∀ s, I 0 s → Ev (fun k => g k s 0) R := by
  have key : ∀ d i, i + d = n → ∀ s, I i s → Ev (fun k => g k s (i : Int)) R := by
    intro d
    induction d with
    | zero => intro i hi s hs
              obtain rfl : i = n := by omega
              exact hend s hs
    | succ d ih =>
      intro i hi s hs
      obtain ⟨s', h1, h2⟩ := hstep i s (by omega) hs
      refine h2 ?_
      rw [wrap_nat (by omega)]
      exact ih (i + 1) (by omega) s' h1
  exact fun s hs => key n 0 (by omega) s hs
theorem Ev.all1 {ρ : Type} {g : Nat → Nat → Option ρ} {R : Nat → ρ} (n : Nat) (h : ∀ a, a < n → Ev (fun k => g k a) (R a)) : ∃ K, ∀ a, a < n → ∀ k, K ≤ k → g k a = some (R a) := by
  induction n with
  | zero => exact ⟨0, fun a ha => absurd ha (Nat.not_lt_zero _)⟩
  | succ n ih =>
    obtain ⟨K, hK⟩ := ih fun a ha => h a (by omega)
    obtain ⟨K', hK'⟩ := h n (by omega)
    refine ⟨K + K', fun a ha k hk => ?_⟩
    rcases Nat.lt_or_ge a n with hlt | hge
    · exact hK a hlt k (by omega)
    · obtain rfl : a = n := by omega
      exact hK' k (by omega)
theorem Ev.all2 {ρ : Type} {g : Nat → Nat → Nat → Option ρ} {R : Nat → Nat → ρ} (n : Nat) (h : ∀ a b, a < n → b < n → Ev (fun k => g k a b) (R a b)) : ∃ K, ∀ a b, a < n → b < n → ∀ k, K ≤ k → g k a b = some (R a b) := by
  have h1 : ∀ a, a < n → ∃ K, ∀ b, b < n → ∀ k, K ≤ k → g k a b = some (R a b) := fun a ha => Ev.all1 n fun b hb => h a b ha hb
  have h2 : ∀ m, m ≤ n → ∃ K, ∀ a b, a < m → b < n → ∀ k, K ≤ k → g k a b = some (R a b) := by
    intro m
    induction m with
    | zero => exact fun _ => ⟨0, fun a b ha => absurd ha (Nat.not_lt_zero _)⟩
    | succ m ih =>
      intro hm
      obtain ⟨K, hK⟩ := ih (by omega)
      obtain ⟨K', hK'⟩ := h1 m (by omega)
      refine ⟨K + K', fun a b ha hb k hk => ?_⟩
      rcases Nat.lt_or_ge a m with hlt | hge
      · exact hK a b hlt hb k (by omega)
      · obtain rfl : a = m := by omega
        exact hK' b hb k (by omega)
  exact h2 n (Nat.le_refl _)
theorem rd_nat (N : List Int) (i : Nat) : rd N (i : Int) = at1 N i := by simp [rd, at1]
theorem rdL_nat (U : List (List Int)) (i : Nat) : rd_L1 U (i : Int) = U.getD i [] := by simp [rd_L1]
theorem rd_row (U : List (List Int)) (i j : Nat) : at1 (U.getD i []) j = at2 U i j := rfl
end Go.Proofs.Ythideghgdmokkaa.Print
end
section
namespace Go.Proofs.Ythideghgdmokkaa.Print
open Go.RowKit Go.Proofs.YthideghgdmokkaaW.PrintWords Go.Proofs.YthideghgdmokkaaW.PrintLast Go.Proofs.YthideghgdmokkaaW.PrintMore
attribute [local go_sem] max2_int min2_int max_two min_two max_three min_three max_four min_four   -- for this text's walks alone
set_option linter.unusedVariables false
set_option linter.unusedSimpArgs false
mutual
def impl_meet.l0 : Nat → List (List Int) → Int → Int → Int → Int → Option (Int)
 | 0, _, _, _, _, _ => none
 | k + 1, x0, x1, x2, x11, x12 => if x12 < x11 then (if 0 ≤ x12 then (if x12 < (x0.length : Int) then (if 0 ≤ x1 then (if x1 < ((rd_L1 x0 x12).length : Int) then (if (rd (rd_L1 x0 x12) x1) = 0 then (impl_meet.j1 k x0 x1 x2 x12 x11 x12 true) else (if 0 ≤ x2 then (if x2 < ((rd_L1 x0 x12).length : Int) then (impl_meet.j1 k x0 x1 x2 x12 x11 x12 ((rd (rd_L1 x0 x12) x2) == 0)) else (none)) else (none))) else (none)) else (none)) else (none)) else (none)) else (some (-1))
def impl_meet.j1 : Nat → List (List Int) → Int → Int → Int → Int → Int → Bool → Option (Int)
 | 0, _, _, _, _, _, _, _ => none
 | k + 1, x0, x1, x2, x7, x11, x12, x32 => if x32 = true then (impl_meet.l0 k x0 x1 x2 x11 (wrap64 (x12 + 1))) else (impl_meet.l1 k x0 x1 x2 x7 true x11 x12 (x0.length : Int) 0)
def impl_meet.l1 : Nat → List (List Int) → Int → Int → Int → Bool → Int → Int → Int → Int → Option (Int)
 | 0, _, _, _, _, _, _, _, _, _ => none
 | k + 1, x0, x1, x2, x7, x8, x11, x12, x34, x35 => if x35 < x34 then (if x8 = true then (if 0 ≤ x35 then (if x35 < (x0.length : Int) then (if 0 ≤ x1 then (if x1 < ((rd_L1 x0 x35).length : Int) then (if (rd (rd_L1 x0 x35) x1) = 0 then (impl_meet.l1 k x0 x1 x2 x7 true x11 x12 x34 (wrap64 (x35 + 1))) else (if 0 ≤ x2 then (if x2 < ((rd_L1 x0 x35).length : Int) then (if (rd (rd_L1 x0 x35) x2) = 0 then (impl_meet.l1 k x0 x1 x2 x7 true x11 x12 x34 (wrap64 (x35 + 1))) else (if 0 ≤ x7 then (if x7 < ((rd_L1 x0 x35).length : Int) then (impl_meet.l1 k x0 x1 x2 x7 ((rd (rd_L1 x0 x35) x7) == 1) x11 x12 x34 (wrap64 (x35 + 1))) else (none)) else (none))) else (none)) else (none))) else (none)) else (none)) else (none)) else (none)) else (impl_meet.l1 k x0 x1 x2 x7 false x11 x12 x34 (wrap64 (x35 + 1)))) else (if x8 = true then (some x7) else (impl_meet.l0 k x0 x1 x2 x11 (wrap64 (x12 + 1))))
end
def impl_meet.f (k : Nat) (l0 : List (List Int)) (a1 : Int) (a2 : Int) : Option (Int) := impl_meet.l0 k l0 a1 a2 (l0.length : Int) 0
set_option maxHeartbeats 8000000 in
set_option maxRecDepth 100000 in
theorem impl_meet.calls (k : Nat) (A0 : Option Addr) (c0 : Nat) (l0 : List (List Int)) (a1 : Int) (a2 : Int) (r : Int) (w : World) (hr0 : Kd.C (Kd.slice 3 (Kd.int .i64)) w A0 l0.length l0) (hc0 : l0.length ≤ c0) (h : impl_meet.f k l0 a1 a2 = some r) :
  Calls Try.prog 105 #[.slice A0 l0.length c0, .int .i64 a1, .int .i64 a2] w fun e w' => e = .returned (.int .i64 r) ∧ Drawn0 w w' := by
 have HR0 := Aside0.mk hr0
 have HC0 := Aside0.mk hc0
 clear hr0 hc0
 have H : (impl_meet.l0 k l0 a1 a2 (l0.length : Int) 0) = some r := h
 clear h
 have H' := Aside0.mk H
 clear H
 go_enter Try.func105, Try.ntmps105
 go_wp2
 go_loopg [12] k (fun kq v12 w' => ∃ (x12_1 : Int), v12 = .int .i64 x12_1 ∧ Aside0 (impl_meet.l0 kq l0 a1 a2 (l0.length : Int) x12_1 = some r) ∧ Aside0 (kq ≤ k) ∧ Drawn0 w w')
 case atStart => exact ⟨(0), (by first | rfl | (simp; done) | (simp [*]; done)), H', ⟨Nat.le_refl _⟩, by repeat (first | exact Drawn0.refl _ | apply Drawn0.step)⟩
 case round =>
  clear H'
  try clear c1
  try clear p2
  obtain ⟨x12_1, rfl, HA, HK1, ⟨m1, rfl⟩⟩ := hrel
  cases gk with
  | zero => exact absurd HA.out (by simp [impl_meet.l0])
  | succ k1 =>
   have H := HA.out
   clear HA
   simp only [impl_meet.l0] at H
   by_cases c4 : x12_1 < (l0.length : Int)
   ·rw [if_pos c4] at H
    have c4b0 : decide (x12_1 < (l0.length : Int)) = true := decide_eq_true c4
    clear c4
    have HC5 := Aside0.mk H
    clear H
    go_upto_region 4 with (fail)
    go_cut [32] (fun v32 wc => ∃ (kq : Nat) (x32_4 : Bool), v32 = .bool x32_4 ∧ Aside0 (impl_meet.j1 kq l0 a1 a2 x12_1 (l0.length : Int) x12_1 x32_4 = some r) ∧ Aside0 (kq ≤ k1) ∧ Drawn0 w wc)
    case first =>
     have H := HC5.out
     clear HC5
     by_cases c6 : 0 ≤ x12_1
     ·rw [if_pos c6] at H
      have c6b0 : decide (0 ≤ x12_1) = true := decide_eq_true c6
      clear c6
      (first | rw [c6b0] | (simp only [i64_w, i32_w]; rw [c6b0]) | skip)
      by_cases c7 : x12_1 < (l0.length : Int)
      ·rw [if_pos c7] at H
       have c7b0 : decide (x12_1 < (l0.length : Int)) = true := decide_eq_true c7
       clear c7
       by_cases c8 : 0 ≤ a1
       ·rw [if_pos c8] at H
        have c8b0 : decide (0 ≤ a1) = true := decide_eq_true c8
        clear c8
        by_cases c9 : a1 < ((rd_L1 l0 x12_1).length : Int)
        ·rw [if_pos c9] at H
         have c9b0 : decide (a1 < ((rd_L1 l0 x12_1).length : Int)) = true := decide_eq_true c9
         clear c9
         by_cases c10 : (rd (rd_L1 l0 x12_1) a1) = 0
         ·rw [if_pos c10] at H
          have c10b0 : ((rd (rd_L1 l0 x12_1) a1) == 0) = true := beq_iff_eq.mpr c10
          have c10b1 : ((rd (rd_L1 l0 x12_1) a1) != 0) = false := bne_eq_false_iff_eq.mpr c10
          clear c10
          have H' := Aside0.mk H
          clear H
          have p230 : 0 ≤ (x12_1 : Int) := of_decide_eq_true (by first | (with_reducible assumption) | assumption)
          have q230 : x12_1 < (l0.length : Int) := of_decide_eq_true (by first | (with_reducible assumption) | assumption)
          obtain ⟨ad230, A230_0, c230_0, e230, hx230_0, hl230_0, hi230_0⟩ := at_L1 HR0.out x12_1 p230 q230
          cases e230
          have HR230_0 := Aside0.mk hi230_0
          have HC230_0 := Aside0.mk hl230_0
          clear hi230_0 hl230_0
          replace p230 := eq_true p230
          replace q230 := eq_true q230
          have p231 : 0 ≤ (a1 : Int) := of_decide_eq_true (by first | (with_reducible assumption) | assumption)
          have q231 : a1 < ((rd_L1 l0 x12_1).length : Int) := of_decide_eq_true (by first | (with_reducible assumption) | assumption)
          obtain ⟨ad231, e231, hx231_0⟩ := Kd.at_int HR230_0.out a1 p231 q231
          cases e231
          replace p231 := eq_true p231
          replace q231 := eq_true q231
          go_wp2
          go_meet
          case rel => exact ⟨_, (true), (by first | rfl | (simp; done) | (simp [*]; done)), H', ⟨by have := HK1.out; first | omega | exact Nat.le_refl _⟩, by repeat (first | exact Drawn0.refl _ | apply Drawn0.step)⟩
         ·rw [if_neg c10] at H
          have c10b0 : ((rd (rd_L1 l0 x12_1) a1) == 0) = false := beq_eq_false_iff_ne.mpr c10
          have c10b1 : ((rd (rd_L1 l0 x12_1) a1) != 0) = true := bne_iff_ne.mpr c10
          by_cases c11 : 0 ≤ a2
          ·rw [if_pos c11] at H
           have c11b0 : decide (0 ≤ a2) = true := decide_eq_true c11
           clear c11
           by_cases c12 : a2 < ((rd_L1 l0 x12_1).length : Int)
           ·rw [if_pos c12] at H
            have c12b0 : decide (a2 < ((rd_L1 l0 x12_1).length : Int)) = true := decide_eq_true c12
            clear c12
            have H' := Aside0.mk H
            clear H
            have p230 : 0 ≤ (x12_1 : Int) := of_decide_eq_true (by first | (with_reducible assumption) | assumption)
            have q230 : x12_1 < (l0.length : Int) := of_decide_eq_true (by first | (with_reducible assumption) | assumption)
            obtain ⟨ad230, A230_0, c230_0, e230, hx230_0, hl230_0, hi230_0⟩ := at_L1 HR0.out x12_1 p230 q230
            cases e230
            have HR230_0 := Aside0.mk hi230_0
            have HC230_0 := Aside0.mk hl230_0
            clear hi230_0 hl230_0
            replace p230 := eq_true p230
            replace q230 := eq_true q230
            have p231 : 0 ≤ (a1 : Int) := of_decide_eq_true (by first | (with_reducible assumption) | assumption)
            have q231 : a1 < ((rd_L1 l0 x12_1).length : Int) := of_decide_eq_true (by first | (with_reducible assumption) | assumption)
            obtain ⟨ad231, e231, hx231_0⟩ := Kd.at_int HR230_0.out a1 p231 q231
            cases e231
            replace p231 := eq_true p231
            replace q231 := eq_true q231
            have p232 : 0 ≤ (x12_1 : Int) := of_decide_eq_true (by first | (with_reducible assumption) | assumption)
            have q232 : x12_1 < (l0.length : Int) := of_decide_eq_true (by first | (with_reducible assumption) | assumption)
            obtain ⟨ad232, A232_0, c232_0, e232, hx232_0, hl232_0, hi232_0⟩ := at_L1 HR0.out x12_1 p232 q232
            obtain rfl : ad230 = ad232 := (by injection e232)
            have HR232_0 := Aside0.mk hi232_0
            have HC232_0 := Aside0.mk hl232_0
            clear hi232_0 hl232_0
            replace p232 := eq_true p232
            replace q232 := eq_true q232
            have ea_ := Option.some.inj (hx230_0.symm.trans hx232_0)
            injection ea_ with ea_ en_ ec_
            subst ea_
            subst ec_
            clear en_
            have p233 : 0 ≤ (a2 : Int) := of_decide_eq_true (by first | (with_reducible assumption) | assumption)
            have q233 : a2 < ((rd_L1 l0 x12_1).length : Int) := of_decide_eq_true (by first | (with_reducible assumption) | assumption)
            obtain ⟨ad233, e233, hx233_0⟩ := Kd.at_int HR232_0.out a2 p233 q233
            cases e233
            replace p233 := eq_true p233
            replace q233 := eq_true q233
            go_wp2
            go_meet
            case rel => exact ⟨_, (((rd (rd_L1 l0 x12_1) a2) == 0)), (by first | rfl | (simp; done) | (simp [*]; done)), H', ⟨by have := HK1.out; first | omega | exact Nat.le_refl _⟩, by repeat (first | exact Drawn0.refl _ | apply Drawn0.step)⟩
           ·rw [if_neg c12] at H
            exact absurd H (by simp)
          ·rw [if_neg c11] at H
           exact absurd H (by simp)
        ·rw [if_neg c9] at H
         exact absurd H (by simp)
       ·rw [if_neg c8] at H
        exact absurd H (by simp)
      ·rw [if_neg c7] at H
       exact absurd H (by simp)
     ·rw [if_neg c6] at H
      exact absurd H (by simp)
    case rest =>
     clear HC5
     try clear c1
     try clear c2
     try clear p2
     try clear q2
     try clear hx2
     try clear c4
     try clear c4b0
     try clear c6
     try clear c6b0
     try clear c7
     try clear c7b0
     try clear c8
     try clear c8b0
     try clear c9
     try clear c9b0
     try clear c10
     try clear c10b0
     try clear c10b1
     try clear c11
     try clear c11b0
     try clear c12
     try clear c12b0
     try clear hx230_0
     try clear hx231_0
     try clear hx232_0
     try clear hx233_0
     try clear p2
     try clear p230
     try clear p231
     try clear p232
     try clear p233
     try clear q230
     try clear q231
     try clear q232
     try clear q233
     obtain ⟨kq, x32_4, rfl, HA, HJ4, ⟨mc4, rfl⟩⟩ := hcut
     cases kq with
     | zero => exact absurd HA.out (by simp [impl_meet.j1])
     | succ kj4 =>
      have H := HA.out
      clear HA
      simp only [impl_meet.j1] at H
      by_cases c13 : x32_4 = true
      ·subst c13
       have H1 : (impl_meet.l0 kj4 l0 a1 a2 (l0.length : Int) (wrap64 (x12_1 + 1))) = some r := by rw [if_pos rfl] at H; exact H
       clear H
       have H := H1
       clear H1
       have H' := Aside0.mk H
       clear H
       go_wp2
       go_roundg kj4
       case measure => have := HK1.out; have := HJ4.out; omega
       case rel => exact ⟨(wrap64 (x12_1 + 1)), (by first | rfl | (simp; done) | (simp [*]; done)), H', ⟨by have := HK1.out; have := HJ4.out; omega⟩, by repeat (first | exact Drawn0.refl _ | apply Drawn0.step)⟩
      ·replace c13 := Bool.eq_false_iff.mpr c13
       subst c13
       have H1 : (impl_meet.l1 kj4 l0 a1 a2 x12_1 true (l0.length : Int) x12_1 (l0.length : Int) 0) = some r := by rw [if_neg (show ¬ (false = true) by decide)] at H; exact H
       clear H
       have H := H1
       clear H1
       have H' := Aside0.mk H
       clear H
       go_wp2
       go_loopg [8, 35] kj4 (fun kq v8 v35 w' => ∃ (x8_3 : Bool) (x35_3 : Int), v8 = .bool x8_3 ∧ v35 = .int .i64 x35_3 ∧ Aside0 (impl_meet.l1 kq l0 a1 a2 x12_1 x8_3 (l0.length : Int) x12_1 (l0.length : Int) x35_3 = some r) ∧ Aside0 (kq ≤ kj4) ∧ Drawn0 w w')
       case atStart => exact ⟨(true), (0), (by first | rfl | (simp; done) | (simp [*]; done)), (by first | rfl | (simp; done) | (simp [*]; done)), H', ⟨Nat.le_refl _⟩, by repeat (first | exact Drawn0.refl _ | apply Drawn0.step)⟩
       case round =>
        clear H'
        try clear c1
        try clear c2
        try clear p2
        try clear q2
        try clear hx2
        try clear c4
        try clear c4b0
        try clear c6
        try clear c6b0
        try clear p6
        try clear c7
        try clear c7b0
        try clear c8
        try clear c8b0
        try clear c9
        try clear c9b0
        try clear c10
        try clear c10b0
        try clear c10b1
        try clear c11
        try clear c11b0
        try clear c12
        try clear c12b0
        try clear c13
        try clear hx230_0
        try clear hx231_0
        try clear hx232_0
        try clear hx233_0
        try clear p2
        try clear p230
        try clear p231
        try clear p232
        try clear p233
        try clear q2
        try clear q230
        try clear q231
        try clear q232
        try clear q233
        obtain ⟨x8_3, x35_3, rfl, rfl, HA, HK3, ⟨m3, rfl⟩⟩ := hrel
        cases gk with
        | zero => exact absurd HA.out (by simp [impl_meet.l1])
        | succ k3 =>
         have H := HA.out
         clear HA
         simp only [impl_meet.l1] at H
         by_cases c14 : x35_3 < (l0.length : Int)
         ·rw [if_pos c14] at H
          have c14b0 : decide (x35_3 < (l0.length : Int)) = true := decide_eq_true c14
          clear c14
          by_cases c15 : x8_3 = true
          ·subst c15
           have H1 : (if 0 ≤ x35_3 then (if x35_3 < (l0.length : Int) then (if 0 ≤ a1 then (if a1 < ((rd_L1 l0 x35_3).length : Int) then (if (rd (rd_L1 l0 x35_3) a1) = 0 then (impl_meet.l1 k3 l0 a1 a2 x12_1 true (l0.length : Int) x12_1 (l0.length : Int) (wrap64 (x35_3 + 1))) else (if 0 ≤ a2 then (if a2 < ((rd_L1 l0 x35_3).length : Int) then (if (rd (rd_L1 l0 x35_3) a2) = 0 then (impl_meet.l1 k3 l0 a1 a2 x12_1 true (l0.length : Int) x12_1 (l0.length : Int) (wrap64 (x35_3 + 1))) else (if 0 ≤ x12_1 then (if x12_1 < ((rd_L1 l0 x35_3).length : Int) then (impl_meet.l1 k3 l0 a1 a2 x12_1 ((rd (rd_L1 l0 x35_3) x12_1) == 1) (l0.length : Int) x12_1 (l0.length : Int) (wrap64 (x35_3 + 1))) else (none)) else (none))) else (none)) else (none))) else (none)) else (none)) else (none)) else (none)) = some r := by rw [if_pos rfl] at H; exact H
           clear H
           have H := H1
           clear H1
           by_cases c16 : 0 ≤ x35_3
           ·rw [if_pos c16] at H
            have c16b0 : decide (0 ≤ x35_3) = true := decide_eq_true c16
            clear c16
            by_cases c17 : x35_3 < (l0.length : Int)
            ·rw [if_pos c17] at H
             have c17b0 : decide (x35_3 < (l0.length : Int)) = true := decide_eq_true c17
             clear c17
             by_cases c18 : 0 ≤ a1
             ·rw [if_pos c18] at H
              have c18b0 : decide (0 ≤ a1) = true := decide_eq_true c18
              clear c18
              by_cases c19 : a1 < ((rd_L1 l0 x35_3).length : Int)
              ·rw [if_pos c19] at H
               have c19b0 : decide (a1 < ((rd_L1 l0 x35_3).length : Int)) = true := decide_eq_true c19
               clear c19
               by_cases c20 : (rd (rd_L1 l0 x35_3) a1) = 0
               ·rw [if_pos c20] at H
                have c20b0 : ((rd (rd_L1 l0 x35_3) a1) == 0) = true := beq_iff_eq.mpr c20
                have c20b1 : ((rd (rd_L1 l0 x35_3) a1) != 0) = false := bne_eq_false_iff_eq.mpr c20
                clear c20
                have H' := Aside0.mk H
                clear H
                have p234 : 0 ≤ (x35_3 : Int) := of_decide_eq_true (by first | (with_reducible assumption) | assumption)
                have q234 : x35_3 < (l0.length : Int) := of_decide_eq_true (by first | (with_reducible assumption) | assumption)
                obtain ⟨ad234, A234_0, c234_0, e234, hx234_0, hl234_0, hi234_0⟩ := at_L1 HR0.out x35_3 p234 q234
                cases e234
                have HR234_0 := Aside0.mk hi234_0
                have HC234_0 := Aside0.mk hl234_0
                clear hi234_0 hl234_0
                replace p234 := eq_true p234
                replace q234 := eq_true q234
                have p235 : 0 ≤ (a1 : Int) := of_decide_eq_true (by first | (with_reducible assumption) | assumption)
                have q235 : a1 < ((rd_L1 l0 x35_3).length : Int) := of_decide_eq_true (by first | (with_reducible assumption) | assumption)
                obtain ⟨ad235, e235, hx235_0⟩ := Kd.at_int HR234_0.out a1 p235 q235
                cases e235
                replace p235 := eq_true p235
                replace q235 := eq_true q235
                go_wp2
                go_roundg k3
                case measure => have := HK1.out; have := HJ4.out; have := HK3.out; omega
                case rel => exact ⟨(true), (wrap64 (x35_3 + 1)), (by first | rfl | (simp; done) | (simp [*]; done)), (by first | rfl | (simp; done) | (simp [*]; done)), H', ⟨by have := HK1.out; have := HJ4.out; have := HK3.out; omega⟩, by repeat (first | exact Drawn0.refl _ | apply Drawn0.step)⟩
               ·rw [if_neg c20] at H
                have c20b0 : ((rd (rd_L1 l0 x35_3) a1) == 0) = false := beq_eq_false_iff_ne.mpr c20
                have c20b1 : ((rd (rd_L1 l0 x35_3) a1) != 0) = true := bne_iff_ne.mpr c20
                by_cases c21 : 0 ≤ a2
                ·rw [if_pos c21] at H
                 have c21b0 : decide (0 ≤ a2) = true := decide_eq_true c21
                 clear c21
                 by_cases c22 : a2 < ((rd_L1 l0 x35_3).length : Int)
                 ·rw [if_pos c22] at H
                  have c22b0 : decide (a2 < ((rd_L1 l0 x35_3).length : Int)) = true := decide_eq_true c22
                  clear c22
                  by_cases c23 : (rd (rd_L1 l0 x35_3) a2) = 0
                  ·rw [if_pos c23] at H
                   have c23b0 : ((rd (rd_L1 l0 x35_3) a2) == 0) = true := beq_iff_eq.mpr c23
                   have c23b1 : ((rd (rd_L1 l0 x35_3) a2) != 0) = false := bne_eq_false_iff_eq.mpr c23
                   clear c23
                   have H' := Aside0.mk H
                   clear H
                   have p234 : 0 ≤ (x35_3 : Int) := of_decide_eq_true (by first | (with_reducible assumption) | assumption)
                   have q234 : x35_3 < (l0.length : Int) := of_decide_eq_true (by first | (with_reducible assumption) | assumption)
                   obtain ⟨ad234, A234_0, c234_0, e234, hx234_0, hl234_0, hi234_0⟩ := at_L1 HR0.out x35_3 p234 q234
                   cases e234
                   have HR234_0 := Aside0.mk hi234_0
                   have HC234_0 := Aside0.mk hl234_0
                   clear hi234_0 hl234_0
                   replace p234 := eq_true p234
                   replace q234 := eq_true q234
                   have p235 : 0 ≤ (a1 : Int) := of_decide_eq_true (by first | (with_reducible assumption) | assumption)
                   have q235 : a1 < ((rd_L1 l0 x35_3).length : Int) := of_decide_eq_true (by first | (with_reducible assumption) | assumption)
                   obtain ⟨ad235, e235, hx235_0⟩ := Kd.at_int HR234_0.out a1 p235 q235
                   cases e235
                   replace p235 := eq_true p235
                   replace q235 := eq_true q235
                   have p236 : 0 ≤ (x35_3 : Int) := of_decide_eq_true (by first | (with_reducible assumption) | assumption)
                   have q236 : x35_3 < (l0.length : Int) := of_decide_eq_true (by first | (with_reducible assumption) | assumption)
                   obtain ⟨ad236, A236_0, c236_0, e236, hx236_0, hl236_0, hi236_0⟩ := at_L1 HR0.out x35_3 p236 q236
                   obtain rfl : ad234 = ad236 := (by injection e236)
                   have HR236_0 := Aside0.mk hi236_0
                   have HC236_0 := Aside0.mk hl236_0
                   clear hi236_0 hl236_0
                   replace p236 := eq_true p236
                   replace q236 := eq_true q236
                   have ea_ := Option.some.inj (hx234_0.symm.trans hx236_0)
                   injection ea_ with ea_ en_ ec_
                   subst ea_
                   subst ec_
                   clear en_
                   have p237 : 0 ≤ (a2 : Int) := of_decide_eq_true (by first | (with_reducible assumption) | assumption)
                   have q237 : a2 < ((rd_L1 l0 x35_3).length : Int) := of_decide_eq_true (by first | (with_reducible assumption) | assumption)
                   obtain ⟨ad237, e237, hx237_0⟩ := Kd.at_int HR236_0.out a2 p237 q237
                   cases e237
                   replace p237 := eq_true p237
                   replace q237 := eq_true q237
                   go_wp2
                   go_roundg k3
                   case measure => have := HK1.out; have := HJ4.out; have := HK3.out; omega
                   case rel => exact ⟨(true), (wrap64 (x35_3 + 1)), (by first | rfl | (simp; done) | (simp [*]; done)), (by first | rfl | (simp; done) | (simp [*]; done)), H', ⟨by have := HK1.out; have := HJ4.out; have := HK3.out; omega⟩, by repeat (first | exact Drawn0.refl _ | apply Drawn0.step)⟩
                  ·rw [if_neg c23] at H
                   have c23b0 : ((rd (rd_L1 l0 x35_3) a2) == 0) = false := beq_eq_false_iff_ne.mpr c23
                   have c23b1 : ((rd (rd_L1 l0 x35_3) a2) != 0) = true := bne_iff_ne.mpr c23
                   by_cases c24 : 0 ≤ x12_1
                   ·rw [if_pos c24] at H
                    have c24b0 : decide (0 ≤ x12_1) = true := decide_eq_true c24
                    clear c24
                    by_cases c25 : x12_1 < ((rd_L1 l0 x35_3).length : Int)
                    ·rw [if_pos c25] at H
                     have c25b0 : decide (x12_1 < ((rd_L1 l0 x35_3).length : Int)) = true := decide_eq_true c25
                     clear c25
                     have H' := Aside0.mk H
                     clear H
                     have p234 : 0 ≤ (x35_3 : Int) := of_decide_eq_true (by first | (with_reducible assumption) | assumption)
                     have q234 : x35_3 < (l0.length : Int) := of_decide_eq_true (by first | (with_reducible assumption) | assumption)
                     obtain ⟨ad234, A234_0, c234_0, e234, hx234_0, hl234_0, hi234_0⟩ := at_L1 HR0.out x35_3 p234 q234
                     cases e234
                     have HR234_0 := Aside0.mk hi234_0
                     have HC234_0 := Aside0.mk hl234_0
                     clear hi234_0 hl234_0
                     replace p234 := eq_true p234
                     replace q234 := eq_true q234
                     have p235 : 0 ≤ (a1 : Int) := of_decide_eq_true (by first | (with_reducible assumption) | assumption)
                     have q235 : a1 < ((rd_L1 l0 x35_3).length : Int) := of_decide_eq_true (by first | (with_reducible assumption) | assumption)
                     obtain ⟨ad235, e235, hx235_0⟩ := Kd.at_int HR234_0.out a1 p235 q235
                     cases e235
                     replace p235 := eq_true p235
                     replace q235 := eq_true q235
                     have p236 : 0 ≤ (x35_3 : Int) := of_decide_eq_true (by first | (with_reducible assumption) | assumption)
                     have q236 : x35_3 < (l0.length : Int) := of_decide_eq_true (by first | (with_reducible assumption) | assumption)
                     obtain ⟨ad236, A236_0, c236_0, e236, hx236_0, hl236_0, hi236_0⟩ := at_L1 HR0.out x35_3 p236 q236
                     obtain rfl : ad234 = ad236 := (by injection e236)
                     have HR236_0 := Aside0.mk hi236_0
                     have HC236_0 := Aside0.mk hl236_0
                     clear hi236_0 hl236_0
                     replace p236 := eq_true p236
                     replace q236 := eq_true q236
                     have ea_ := Option.some.inj (hx234_0.symm.trans hx236_0)
                     injection ea_ with ea_ en_ ec_
                     subst ea_
                     subst ec_
                     clear en_
                     have p237 : 0 ≤ (a2 : Int) := of_decide_eq_true (by first | (with_reducible assumption) | assumption)
                     have q237 : a2 < ((rd_L1 l0 x35_3).length : Int) := of_decide_eq_true (by first | (with_reducible assumption) | assumption)
                     obtain ⟨ad237, e237, hx237_0⟩ := Kd.at_int HR236_0.out a2 p237 q237
                     cases e237
                     replace p237 := eq_true p237
                     replace q237 := eq_true q237
                     have p238 : 0 ≤ (x35_3 : Int) := of_decide_eq_true (by first | (with_reducible assumption) | assumption)
                     have q238 : x35_3 < (l0.length : Int) := of_decide_eq_true (by first | (with_reducible assumption) | assumption)
                     obtain ⟨ad238, A238_0, c238_0, e238, hx238_0, hl238_0, hi238_0⟩ := at_L1 HR0.out x35_3 p238 q238
                     obtain rfl : ad234 = ad238 := (by injection e238)
                     have HR238_0 := Aside0.mk hi238_0
                     have HC238_0 := Aside0.mk hl238_0
                     clear hi238_0 hl238_0
                     replace p238 := eq_true p238
                     replace q238 := eq_true q238
                     have ea_ := Option.some.inj (hx234_0.symm.trans hx238_0)
                     injection ea_ with ea_ en_ ec_
                     subst ea_
                     subst ec_
                     clear en_
                     have p239 : 0 ≤ (x12_1 : Int) := of_decide_eq_true (by first | (with_reducible assumption) | assumption)
                     have q239 : x12_1 < ((rd_L1 l0 x35_3).length : Int) := of_decide_eq_true (by first | (with_reducible assumption) | assumption)
                     obtain ⟨ad239, e239, hx239_0⟩ := Kd.at_int HR238_0.out x12_1 p239 q239
                     cases e239
                     replace p239 := eq_true p239
                     replace q239 := eq_true q239
                     go_wp2
                     go_roundg k3
                     case measure => have := HK1.out; have := HJ4.out; have := HK3.out; omega
                     case rel => exact ⟨(((rd (rd_L1 l0 x35_3) x12_1) == 1)), (wrap64 (x35_3 + 1)), (by first | rfl | (simp; done) | (simp [*]; done)), (by first | rfl | (simp; done) | (simp [*]; done)), H', ⟨by have := HK1.out; have := HJ4.out; have := HK3.out; omega⟩, by repeat (first | exact Drawn0.refl _ | apply Drawn0.step)⟩
                    ·rw [if_neg c25] at H
                     exact absurd H (by simp)
                   ·rw [if_neg c24] at H
                    exact absurd H (by simp)
                 ·rw [if_neg c22] at H
                  exact absurd H (by simp)
                ·rw [if_neg c21] at H
                 exact absurd H (by simp)
              ·rw [if_neg c19] at H
               exact absurd H (by simp)
             ·rw [if_neg c18] at H
              exact absurd H (by simp)
            ·rw [if_neg c17] at H
             exact absurd H (by simp)
           ·rw [if_neg c16] at H
            exact absurd H (by simp)
          ·replace c15 := Bool.eq_false_iff.mpr c15
           subst c15
           have H1 : (impl_meet.l1 k3 l0 a1 a2 x12_1 false (l0.length : Int) x12_1 (l0.length : Int) (wrap64 (x35_3 + 1))) = some r := by rw [if_neg (show ¬ (false = true) by decide)] at H; exact H
           clear H
           have H := H1
           clear H1
           have H' := Aside0.mk H
           clear H
           go_wp2
           go_roundg k3
           case measure => have := HK1.out; have := HJ4.out; have := HK3.out; omega
           case rel => exact ⟨(false), (wrap64 (x35_3 + 1)), (by first | rfl | (simp; done) | (simp [*]; done)), (by first | rfl | (simp; done) | (simp [*]; done)), H', ⟨by have := HK1.out; have := HJ4.out; have := HK3.out; omega⟩, by repeat (first | exact Drawn0.refl _ | apply Drawn0.step)⟩
         ·rw [if_neg c14] at H
          have c14b0 : decide (x35_3 < (l0.length : Int)) = false := decide_eq_false c14
          clear c14
          by_cases c26 : x8_3 = true
          ·subst c26
           have H1 : (some x12_1) = some r := by rw [if_pos rfl] at H; exact H
           clear H
           have H := H1
           clear H1
           obtain rfl := Option.some.inj H
           go_wp2
           go_ret
           exact ⟨by first | rfl | (simp; done) | (simp [*]; done), by repeat (first | exact Drawn0.refl _ | apply Drawn0.step)⟩
          ·replace c26 := Bool.eq_false_iff.mpr c26
           subst c26
           have H1 : (impl_meet.l0 k3 l0 a1 a2 (l0.length : Int) (wrap64 (x12_1 + 1))) = some r := by rw [if_neg (show ¬ (false = true) by decide)] at H; exact H
           clear H
           have H := H1
           clear H1
           have H' := Aside0.mk H
           clear H
           go_wp2
           go_roundg k3
           case measure => have := HK1.out; have := HJ4.out; have := HK3.out; omega
           case rel => exact ⟨(wrap64 (x12_1 + 1)), (by first | rfl | (simp; done) | (simp [*]; done)), H', ⟨by have := HK1.out; have := HJ4.out; have := HK3.out; omega⟩, by repeat (first | exact Drawn0.refl _ | apply Drawn0.step)⟩
   ·rw [if_neg c4] at H
    have c4b0 : decide (x12_1 < (l0.length : Int)) = false := decide_eq_false c4
    clear c4
    obtain rfl := Option.some.inj H
    go_wp2
    go_ret
    exact ⟨by first | rfl | (simp; done) | (simp [*]; done), by repeat (first | exact Drawn0.refl _ | apply Drawn0.step)⟩
end Go.Proofs.Ythideghgdmokkaa.Print
end
section
namespace Go.Proofs.Ythideghgdmokkaa.Print
open Go.RowKit Go.Proofs.YthideghgdmokkaaW.PrintWords Go.Proofs.YthideghgdmokkaaW.PrintLast Go.Proofs.YthideghgdmokkaaW.PrintMore
attribute [local go_sem] max2_int min2_int max_two min_two max_three min_three max_four min_four   -- for this text's walks alone
set_option linter.unusedVariables false
set_option linter.unusedSimpArgs false
mutual
def impl_OrderOk.j0 : Nat → List (List Int) → Int → Bool → Option (Bool)
 | 0, _, _, _ => none
 | k + 1, x0, x3, x18 => if x18 = true then (some false) else (impl_OrderOk.l0 k x0 x3 x0 (x0.length : Int) 0)
def impl_OrderOk.l0 : Nat → List (List Int) → Int → List (List Int) → Int → Int → Option (Bool)
 | 0, _, _, _, _, _ => none
 | k + 1, x0, x3, x19, x20, x21 => if x21 < x20 then (if 0 ≤ x21 then (if x21 < (x19.length : Int) then (if ((rd_L1 x19 x21).length : Int) = x3 then (if x21 < ((rd_L1 x19 x21).length : Int) then (impl_OrderOk.j2 k x0 x3 x21 (rd_L1 x19 x21) x19 x20 x21 ((rd (rd_L1 x19 x21) x21) != 1)) else (none)) else (impl_OrderOk.j2 k x0 x3 x21 (rd_L1 x19 x21) x19 x20 x21 true)) else (none)) else (none)) else (impl_OrderOk.l2 k x0 x3 x3 0)
def impl_OrderOk.j2 : Nat → List (List Int) → Int → Int → List Int → List (List Int) → Int → Int → Bool → Option (Bool)
 | 0, _, _, _, _, _, _, _, _ => none
 | k + 1, x0, x3, x4, x5, x19, x20, x21, x36 => if x36 = true then (some false) else (impl_OrderOk.l1 k x0 x3 x4 x19 x20 x21 x5 (x5.length : Int) 0)
def impl_OrderOk.l1 : Nat → List (List Int) → Int → Int → List (List Int) → Int → Int → List Int → Int → Int → Option (Bool)
 | 0, _, _, _, _, _, _, _, _, _ => none
 | k + 1, x0, x3, x4, x19, x20, x21, x37, x38, x39 => if x39 < x38 then (if 0 ≤ x39 then (if x39 < (x37.length : Int) then (if (rd x37 x39) = 0 then (impl_OrderOk.j4 k x0 x3 x4 x39 (rd x37 x39) x19 x20 x21 x37 x38 x39 false) else (impl_OrderOk.j4 k x0 x3 x4 x39 (rd x37 x39) x19 x20 x21 x37 x38 x39 ((rd x37 x39) != 1))) else (none)) else (none)) else (impl_OrderOk.l0 k x0 x3 x19 x20 (wrap64 (x21 + 1)))
def impl_OrderOk.j4 : Nat → List (List Int) → Int → Int → Int → Int → List (List Int) → Int → Int → List Int → Int → Int → Bool → Option (Bool)
 | 0, _, _, _, _, _, _, _, _, _, _, _, _ => none
 | k + 1, x0, x3, x4, x6, x7, x19, x20, x21, x37, x38, x39, x49 => if x49 = true then (some false) else (if 0 ≤ x6 then (if x6 < (x0.length : Int) then (if ((rd_L1 x0 x6).length : Int) = x3 then (if x7 = 1 then (if x4 = x6 then (impl_OrderOk.l1 k x0 x3 x4 x19 x20 x21 x37 x38 (wrap64 (x39 + 1))) else (if 0 ≤ x4 then (if x4 < ((rd_L1 x0 x6).length : Int) then (if (rd (rd_L1 x0 x6) x4) = 1 then (some false) else (impl_OrderOk.l1 k x0 x3 x4 x19 x20 x21 x37 x38 (wrap64 (x39 + 1)))) else (none)) else (none))) else (impl_OrderOk.l1 k x0 x3 x4 x19 x20 x21 x37 x38 (wrap64 (x39 + 1)))) else (some false)) else (none)) else (none))
def impl_OrderOk.l2 : Nat → List (List Int) → Int → Int → Int → Option (Bool)
 | 0, _, _, _, _ => none
 | k + 1, x0, x3, x78, x79 => if x79 < x78 then (impl_OrderOk.l3 k x0 x3 x79 x78 x79 x3 0) else (some true)
def impl_OrderOk.l3 : Nat → List (List Int) → Int → Int → Int → Int → Int → Int → Option (Bool)
 | 0, _, _, _, _, _, _, _ => none
 | k + 1, x0, x3, x8, x78, x79, x82, x83 => if x83 < x82 then (impl_OrderOk.l4 k x0 x3 x8 x83 x78 x79 x82 x83 x3 0) else (impl_OrderOk.l2 k x0 x3 x78 (wrap64 (x79 + 1)))
def impl_OrderOk.l4 : Nat → List (List Int) → Int → Int → Int → Int → Int → Int → Int → Int → Int → Option (Bool)
 | 0, _, _, _, _, _, _, _, _, _, _ => none
 | k + 1, x0, x3, x8, x9, x78, x79, x82, x83, x86, x87 => if x87 < x86 then (if 0 ≤ x8 then (if x8 < (x0.length : Int) then (if 0 ≤ x9 then (if x9 < ((rd_L1 x0 x8).length : Int) then (if (rd (rd_L1 x0 x8) x9) = 1 then (if x9 < (x0.length : Int) then (if 0 ≤ x87 then (if x87 < ((rd_L1 x0 x9).length : Int) then (if (rd (rd_L1 x0 x9) x87) = 1 then (if x87 < ((rd_L1 x0 x8).length : Int) then (if (rd (rd_L1 x0 x8) x87) = 1 then (impl_OrderOk.l4 k x0 x3 x8 x9 x78 x79 x82 x83 x86 (wrap64 (x87 + 1))) else (some false)) else (none)) else (impl_OrderOk.l4 k x0 x3 x8 x9 x78 x79 x82 x83 x86 (wrap64 (x87 + 1)))) else (none)) else (none)) else (none)) else (impl_OrderOk.l4 k x0 x3 x8 x9 x78 x79 x82 x83 x86 (wrap64 (x87 + 1)))) else (none)) else (none)) else (none)) else (none)) else (impl_OrderOk.l3 k x0 x3 x8 x78 x79 x82 (wrap64 (x83 + 1)))
end
def impl_OrderOk.f (k : Nat) (l0 : List (List Int)) : Option (Bool) := if (l0.length : Int) < 1 then (impl_OrderOk.j0 k l0 (l0.length : Int) true) else (impl_OrderOk.j0 k l0 (l0.length : Int) (decide ((l0.length : Int) > 12)))
set_option maxHeartbeats 8000000 in
set_option maxRecDepth 100000 in
theorem impl_OrderOk.calls (k : Nat) (A0 : Option Addr) (c0 : Nat) (l0 : List (List Int)) (r : Bool) (w : World) (hr0 : Kd.C (Kd.slice 3 (Kd.int .i64)) w A0 l0.length l0) (hc0 : l0.length ≤ c0) (h : impl_OrderOk.f k l0 = some r) :
  Calls Try.prog 134 #[.slice A0 l0.length c0] w fun e w' => e = .returned (.bool r) ∧ Drawn0 w w' := by
 have HR0 := Aside0.mk hr0
 have HC0 := Aside0.mk hc0
 clear hr0 hc0
 have H : (if (l0.length : Int) < 1 then (impl_OrderOk.j0 k l0 (l0.length : Int) true) else (impl_OrderOk.j0 k l0 (l0.length : Int) (decide ((l0.length : Int) > 12)))) = some r := h
 clear h
 have HC2 := Aside0.mk H
 clear H
 go_enter Try.func134, Try.ntmps134
 go_upto_region 2 with (fail)
 go_cut [18] (fun v18 wc => ∃ (kq : Nat) (x18_1 : Bool), v18 = .bool x18_1 ∧ Aside0 (impl_OrderOk.j0 kq l0 (l0.length : Int) x18_1 = some r) ∧ Aside0 (kq ≤ k) ∧ Drawn0 w wc)
 case first =>
  have H := HC2.out
  clear HC2
  by_cases c3 : (l0.length : Int) < 1
  ·rw [if_pos c3] at H
   have c3b0 : decide ((l0.length : Int) < 1) = true := decide_eq_true c3
   have c3b1 : decide (l0.length < 1) = true := decide_eq_true (by omega)
   clear c3
   (first | rw [c3b0] | (simp only [i64_w, i32_w]; rw [c3b0]) | skip)
   have H' := Aside0.mk H
   clear H
   go_wp2
   go_meet
   case rel => exact ⟨_, (true), (by first | rfl | (simp; done) | (simp [*]; done)), H', ⟨by first | omega | exact Nat.le_refl _⟩, by repeat (first | exact Drawn0.refl _ | apply Drawn0.step)⟩
  ·rw [if_neg c3] at H
   have c3b0 : decide ((l0.length : Int) < 1) = false := decide_eq_false c3
   have c3b1 : decide (l0.length < 1) = false := decide_eq_false (by omega)
   clear c3
   (first | rw [c3b0] | (simp only [i64_w, i32_w]; rw [c3b0]) | skip)
   have H' := Aside0.mk H
   clear H
   go_wp2
   go_meet
   case rel => exact ⟨_, (decide ((l0.length : Int) > 12)), (by first | rfl | (simp; done) | (simp [*]; done)), H', ⟨by first | omega | exact Nat.le_refl _⟩, by repeat (first | exact Drawn0.refl _ | apply Drawn0.step)⟩
 case rest =>
  clear HC2
  try clear c1
  try clear p2
  try clear c3
  try clear c3b0
  try clear c3b1
  obtain ⟨kq, x18_1, rfl, HA, HJ1, ⟨mc1, rfl⟩⟩ := hcut
  cases kq with
  | zero => exact absurd HA.out (by simp [impl_OrderOk.j0])
  | succ kj1 =>
   have H := HA.out
   clear HA
   simp only [impl_OrderOk.j0] at H
   by_cases c4 : x18_1 = true
   ·subst c4
    have H1 : (some false) = some r := by rw [if_pos rfl] at H; exact H
    clear H
    have H := H1
    clear H1
    obtain rfl := Option.some.inj H
    go_wp2
    go_ret
    exact ⟨by first | rfl | (simp; done) | (simp [*]; done), by repeat (first | exact Drawn0.refl _ | apply Drawn0.step)⟩
   ·replace c4 := Bool.eq_false_iff.mpr c4
    subst c4
    have H1 : (impl_OrderOk.l0 kj1 l0 (l0.length : Int) l0 (l0.length : Int) 0) = some r := by rw [if_neg (show ¬ (false = true) by decide)] at H; exact H
    clear H
    have H := H1
    clear H1
    have H' := Aside0.mk H
    clear H
    go_wp2
    go_loopg [21] kj1 (fun kq v21 w' => ∃ (x21_2 : Int), v21 = .int .i64 x21_2 ∧ Aside0 (impl_OrderOk.l0 kq l0 (l0.length : Int) l0 (l0.length : Int) x21_2 = some r) ∧ Aside0 (kq ≤ kj1) ∧ Drawn0 w w')
    case atStart => exact ⟨(0), (by first | rfl | (simp; done) | (simp [*]; done)), H', ⟨Nat.le_refl _⟩, by repeat (first | exact Drawn0.refl _ | apply Drawn0.step)⟩
    case round =>
     clear H'
     try clear c1
     try clear p2
     try clear c3
     try clear c3b0
     try clear c3b1
     try clear c4
     try clear p2
     obtain ⟨x21_2, rfl, HA, HK2, ⟨m2, rfl⟩⟩ := hrel
     cases gk with
     | zero => exact absurd HA.out (by simp [impl_OrderOk.l0])
     | succ k2 =>
      have H := HA.out
      clear HA
      simp only [impl_OrderOk.l0] at H
      by_cases c5 : x21_2 < (l0.length : Int)
      ·rw [if_pos c5] at H
       have c5b0 : decide (x21_2 < (l0.length : Int)) = true := decide_eq_true c5
       clear c5
       by_cases c6 : 0 ≤ x21_2
       ·rw [if_pos c6] at H
        have c6b0 : decide (0 ≤ x21_2) = true := decide_eq_true c6
        clear c6
        by_cases c7 : x21_2 < (l0.length : Int)
        ·rw [if_pos c7] at H
         have c7b0 : decide (x21_2 < (l0.length : Int)) = true := decide_eq_true c7
         clear c7
         have HC8 := Aside0.mk H
         clear H
         have p240 : 0 ≤ (x21_2 : Int) := of_decide_eq_true (by first | (with_reducible assumption) | assumption)
         have q240 : x21_2 < (l0.length : Int) := of_decide_eq_true (by first | (with_reducible assumption) | assumption)
         obtain ⟨ad240, A240_0, c240_0, e240, hx240_0, hl240_0, hi240_0⟩ := at_L1 HR0.out x21_2 p240 q240
         cases e240
         have HR240_0 := Aside0.mk hi240_0
         have HC240_0 := Aside0.mk hl240_0
         clear hi240_0 hl240_0
         replace p240 := eq_true p240
         replace q240 := eq_true q240
         go_upto_region 7 with (fail)
         go_cut [36] (fun v36 wc => ∃ (kq : Nat) (x36_7 : Bool), v36 = .bool x36_7 ∧ Aside0 (impl_OrderOk.j2 kq l0 (l0.length : Int) x21_2 (rd_L1 l0 x21_2) l0 (l0.length : Int) x21_2 x36_7 = some r) ∧ Aside0 (kq ≤ k2) ∧ Drawn0 w wc)
         case first =>
          have H := HC8.out
          clear HC8
          by_cases c9 : ((rd_L1 l0 x21_2).length : Int) = (l0.length : Int)
          ·rw [if_pos c9] at H
           have c9b0 : (((rd_L1 l0 x21_2).length : Int) == (l0.length : Int)) = true := beq_iff_eq.mpr c9
           have c9b1 : (((rd_L1 l0 x21_2).length : Int) != (l0.length : Int)) = false := bne_eq_false_iff_eq.mpr c9
           have c9b2 : ((rd_L1 l0 x21_2).length == l0.length) = true := by first | simpa using c9 | (simp at c9 ⊢; omega)
           clear c9
           (first | rw [c9b0] | (simp only [i64_w, i32_w]; rw [c9b0]) | skip)
           by_cases c10 : x21_2 < ((rd_L1 l0 x21_2).length : Int)
           ·rw [if_pos c10] at H
            have c10b0 : decide (x21_2 < ((rd_L1 l0 x21_2).length : Int)) = true := decide_eq_true c10
            clear c10
            have H' := Aside0.mk H
            clear H
            have p241 : 0 ≤ (x21_2 : Int) := of_decide_eq_true (by first | (with_reducible assumption) | assumption)
            have q241 : x21_2 < ((rd_L1 l0 x21_2).length : Int) := of_decide_eq_true (by first | (with_reducible assumption) | assumption)
            obtain ⟨ad241, e241, hx241_0⟩ := Kd.at_int HR240_0.out x21_2 p241 q241
            cases e241
            replace p241 := eq_true p241
            replace q241 := eq_true q241
            go_wp2
            go_meet
            case rel => exact ⟨_, (((rd (rd_L1 l0 x21_2) x21_2) != 1)), (by first | rfl | (simp; done) | (simp [*]; done)), H', ⟨by have := HJ1.out; have := HK2.out; first | omega | exact Nat.le_refl _⟩, by repeat (first | exact Drawn0.refl _ | apply Drawn0.step)⟩
           ·rw [if_neg c10] at H
            exact absurd H (by simp)
          ·rw [if_neg c9] at H
           have c9b0 : (((rd_L1 l0 x21_2).length : Int) == (l0.length : Int)) = false := beq_eq_false_iff_ne.mpr c9
           have c9b1 : (((rd_L1 l0 x21_2).length : Int) != (l0.length : Int)) = true := bne_iff_ne.mpr c9
           have c9b2 : ((rd_L1 l0 x21_2).length == l0.length) = false := by first | simpa using c9 | (simp at c9 ⊢; omega)
           (first | rw [c9b0] | (simp only [i64_w, i32_w]; rw [c9b0]) | skip)
           have H' := Aside0.mk H
           clear H
           go_wp2
           go_meet
           case rel => exact ⟨_, (true), (by first | rfl | (simp; done) | (simp [*]; done)), H', ⟨by have := HJ1.out; have := HK2.out; first | omega | exact Nat.le_refl _⟩, by repeat (first | exact Drawn0.refl _ | apply Drawn0.step)⟩
         case rest =>
          clear HC8
          try clear c1
          try clear c2
          try clear p2
          try clear q2
          try clear hx2
          try clear c3
          try clear c3b0
          try clear c3b1
          try clear c4
          try clear c5
          try clear c5b0
          try clear c6
          try clear c6b0
          try clear c7
          try clear c7b0
          try clear c9
          try clear c9b0
          try clear c9b1
          try clear c9b2
          try clear c10
          try clear c10b0
          try clear hx240_0
          try clear hx241_0
          try clear p2
          try clear p240
          try clear p241
          try clear q240
          try clear q241
          obtain ⟨kq, x36_7, rfl, HA, HJ7, ⟨mc7, rfl⟩⟩ := hcut
          cases kq with
          | zero => exact absurd HA.out (by simp [impl_OrderOk.j2])
          | succ kj7 =>
           have H := HA.out
           clear HA
           simp only [impl_OrderOk.j2] at H
           by_cases c11 : x36_7 = true
           ·subst c11
            have H1 : (some false) = some r := by rw [if_pos rfl] at H; exact H
            clear H
            have H := H1
            clear H1
            obtain rfl := Option.some.inj H
            go_wp2
            go_ret
            exact ⟨by first | rfl | (simp; done) | (simp [*]; done), by repeat (first | exact Drawn0.refl _ | apply Drawn0.step)⟩
           ·replace c11 := Bool.eq_false_iff.mpr c11
            subst c11
            have H1 : (impl_OrderOk.l1 kj7 l0 (l0.length : Int) x21_2 l0 (l0.length : Int) x21_2 (rd_L1 l0 x21_2) ((rd_L1 l0 x21_2).length : Int) 0) = some r := by rw [if_neg (show ¬ (false = true) by decide)] at H; exact H
            clear H
            have H := H1
            clear H1
            have H' := Aside0.mk H
            clear H
            go_wp2
            go_loopg [39] kj7 (fun kq v39 w' => ∃ (x39_4 : Int), v39 = .int .i64 x39_4 ∧ Aside0 (impl_OrderOk.l1 kq l0 (l0.length : Int) x21_2 l0 (l0.length : Int) x21_2 (rd_L1 l0 x21_2) ((rd_L1 l0 x21_2).length : Int) x39_4 = some r) ∧ Aside0 (kq ≤ kj7) ∧ Drawn0 w w')
            case atStart => exact ⟨(0), (by first | rfl | (simp; done) | (simp [*]; done)), H', ⟨Nat.le_refl _⟩, by repeat (first | exact Drawn0.refl _ | apply Drawn0.step)⟩
            case round =>
             clear H'
             try clear c1
             try clear c2
             try clear p2
             try clear q2
             try clear hx2
             try clear c3
             try clear c3b0
             try clear c3b1
             try clear c4
             try clear c5
             try clear c5b0
             try clear c6
             try clear c6b0
             try clear c7
             try clear c7b0
             try clear c9
             try clear c9b0
             try clear c9b1
             try clear c9b2
             try clear c10
             try clear c10b0
             try clear c11
             try clear hx240_0
             try clear hx241_0
             try clear p2
             try clear p240
             try clear p241
             try clear q2
             try clear q240
             try clear q241
             obtain ⟨x39_4, rfl, HA, HK4, ⟨m4, rfl⟩⟩ := hrel
             cases gk with
             | zero => exact absurd HA.out (by simp [impl_OrderOk.l1])
             | succ k4 =>
              have H := HA.out
              clear HA
              simp only [impl_OrderOk.l1] at H
              by_cases c12 : x39_4 < ((rd_L1 l0 x21_2).length : Int)
              ·rw [if_pos c12] at H
               have c12b0 : decide (x39_4 < ((rd_L1 l0 x21_2).length : Int)) = true := decide_eq_true c12
               clear c12
               by_cases c13 : 0 ≤ x39_4
               ·rw [if_pos c13] at H
                have c13b0 : decide (0 ≤ x39_4) = true := decide_eq_true c13
                clear c13
                by_cases c14 : x39_4 < ((rd_L1 l0 x21_2).length : Int)
                ·rw [if_pos c14] at H
                 have c14b0 : decide (x39_4 < ((rd_L1 l0 x21_2).length : Int)) = true := decide_eq_true c14
                 clear c14
                 have HC15 := Aside0.mk H
                 clear H
                 have p242 : 0 ≤ (x39_4 : Int) := of_decide_eq_true (by first | (with_reducible assumption) | assumption)
                 have q242 : x39_4 < ((rd_L1 l0 x21_2).length : Int) := of_decide_eq_true (by first | (with_reducible assumption) | assumption)
                 obtain ⟨ad242, e242, hx242_0⟩ := Kd.at_int HR240_0.out x39_4 p242 q242
                 cases e242
                 replace p242 := eq_true p242
                 replace q242 := eq_true q242
                 go_upto_region 12 with (fail)
                 go_cut [49] (fun v49 wc => ∃ (kq : Nat) (x49_14 : Bool), v49 = .bool x49_14 ∧ Aside0 (impl_OrderOk.j4 kq l0 (l0.length : Int) x21_2 x39_4 (rd (rd_L1 l0 x21_2) x39_4) l0 (l0.length : Int) x21_2 (rd_L1 l0 x21_2) ((rd_L1 l0 x21_2).length : Int) x39_4 x49_14 = some r) ∧ Aside0 (kq ≤ k4) ∧ Drawn0 w wc)
                 case first =>
                  have H := HC15.out
                  clear HC15
                  by_cases c16 : (rd (rd_L1 l0 x21_2) x39_4) = 0
                  ·rw [if_pos c16] at H
                   have c16b0 : ((rd (rd_L1 l0 x21_2) x39_4) == 0) = true := beq_iff_eq.mpr c16
                   have c16b1 : ((rd (rd_L1 l0 x21_2) x39_4) != 0) = false := bne_eq_false_iff_eq.mpr c16
                   clear c16
                   (first | rw [c16b0] | (simp only [i64_w, i32_w]; rw [c16b0]) | skip)
                   have H' := Aside0.mk H
                   clear H
                   go_wp2
                   go_meet
                   case rel => exact ⟨_, (false), (by first | rfl | (simp; done) | (simp [*]; done)), H', ⟨by have := HJ1.out; have := HK2.out; have := HJ7.out; have := HK4.out; first | omega | exact Nat.le_refl _⟩, by repeat (first | exact Drawn0.refl _ | apply Drawn0.step)⟩
                  ·rw [if_neg c16] at H
                   have c16b0 : ((rd (rd_L1 l0 x21_2) x39_4) == 0) = false := beq_eq_false_iff_ne.mpr c16
                   have c16b1 : ((rd (rd_L1 l0 x21_2) x39_4) != 0) = true := bne_iff_ne.mpr c16
                   (first | rw [c16b0] | (simp only [i64_w, i32_w]; rw [c16b0]) | skip)
                   have H' := Aside0.mk H
                   clear H
                   go_wp2
                   go_meet
                   case rel => exact ⟨_, (((rd (rd_L1 l0 x21_2) x39_4) != 1)), (by first | rfl | (simp; done) | (simp [*]; done)), H', ⟨by have := HJ1.out; have := HK2.out; have := HJ7.out; have := HK4.out; first | omega | exact Nat.le_refl _⟩, by repeat (first | exact Drawn0.refl _ | apply Drawn0.step)⟩
                 case rest =>
                  clear HC15
                  try clear c1
                  try clear c2
                  try clear p2
                  try clear q2
                  try clear hx2
                  try clear c3
                  try clear c3b0
                  try clear c3b1
                  try clear c4
                  try clear c5
                  try clear c5b0
                  try clear c6
                  try clear c6b0
                  try clear c7
                  try clear c7b0
                  try clear c9
                  try clear c9b0
                  try clear c9b1
                  try clear c9b2
                  try clear c10
                  try clear c10b0
                  try clear c11
                  try clear c12
                  try clear c12b0
                  try clear c13
                  try clear c13b0
                  try clear c14
                  try clear c14b0
                  try clear c16
                  try clear c16b0
                  try clear c16b1
                  try clear hx240_0
                  try clear hx241_0
                  try clear hx242_0
                  try clear p2
                  try clear p240
                  try clear p241
                  try clear p242
                  try clear q2
                  try clear q240
                  try clear q241
                  try clear q242
                  obtain ⟨kq, x49_14, rfl, HA, HJ14, ⟨mc14, rfl⟩⟩ := hcut
                  cases kq with
                  | zero => exact absurd HA.out (by simp [impl_OrderOk.j4])
                  | succ kj14 =>
                   have H := HA.out
                   clear HA
                   simp only [impl_OrderOk.j4] at H
                   by_cases c17 : x49_14 = true
                   ·subst c17
                    have H1 : (some false) = some r := by rw [if_pos rfl] at H; exact H
                    clear H
                    have H := H1
                    clear H1
                    obtain rfl := Option.some.inj H
                    go_wp2
                    go_ret
                    exact ⟨by first | rfl | (simp; done) | (simp [*]; done), by repeat (first | exact Drawn0.refl _ | apply Drawn0.step)⟩
                   ·replace c17 := Bool.eq_false_iff.mpr c17
                    subst c17
                    have H1 : (if 0 ≤ x39_4 then (if x39_4 < (l0.length : Int) then (if ((rd_L1 l0 x39_4).length : Int) = (l0.length : Int) then (if (rd (rd_L1 l0 x21_2) x39_4) = 1 then (if x21_2 = x39_4 then (impl_OrderOk.l1 kj14 l0 (l0.length : Int) x21_2 l0 (l0.length : Int) x21_2 (rd_L1 l0 x21_2) ((rd_L1 l0 x21_2).length : Int) (wrap64 (x39_4 + 1))) else (if 0 ≤ x21_2 then (if x21_2 < ((rd_L1 l0 x39_4).length : Int) then (if (rd (rd_L1 l0 x39_4) x21_2) = 1 then (some false) else (impl_OrderOk.l1 kj14 l0 (l0.length : Int) x21_2 l0 (l0.length : Int) x21_2 (rd_L1 l0 x21_2) ((rd_L1 l0 x21_2).length : Int) (wrap64 (x39_4 + 1)))) else (none)) else (none))) else (impl_OrderOk.l1 kj14 l0 (l0.length : Int) x21_2 l0 (l0.length : Int) x21_2 (rd_L1 l0 x21_2) ((rd_L1 l0 x21_2).length : Int) (wrap64 (x39_4 + 1)))) else (some false)) else (none)) else (none)) = some r := by rw [if_neg (show ¬ (false = true) by decide)] at H; exact H
                    clear H
                    have H := H1
                    clear H1
                    by_cases c18 : 0 ≤ x39_4
                    ·rw [if_pos c18] at H
                     have c18b0 : decide (0 ≤ x39_4) = true := decide_eq_true c18
                     clear c18
                     by_cases c19 : x39_4 < (l0.length : Int)
                     ·rw [if_pos c19] at H
                      have c19b0 : decide (x39_4 < (l0.length : Int)) = true := decide_eq_true c19
                      clear c19
                      by_cases c20 : ((rd_L1 l0 x39_4).length : Int) = (l0.length : Int)
                      ·rw [if_pos c20] at H
                       have c20b0 : (((rd_L1 l0 x39_4).length : Int) == (l0.length : Int)) = true := beq_iff_eq.mpr c20
                       have c20b1 : (((rd_L1 l0 x39_4).length : Int) != (l0.length : Int)) = false := bne_eq_false_iff_eq.mpr c20
                       have c20b2 : ((rd_L1 l0 x39_4).length == l0.length) = true := by first | simpa using c20 | (simp at c20 ⊢; omega)
                       clear c20
                       by_cases c21 : (rd (rd_L1 l0 x21_2) x39_4) = 1
                       ·rw [if_pos c21] at H
                        have c21b0 : ((rd (rd_L1 l0 x21_2) x39_4) == 1) = true := beq_iff_eq.mpr c21
                        have c21b1 : ((rd (rd_L1 l0 x21_2) x39_4) != 1) = false := bne_eq_false_iff_eq.mpr c21
                        clear c21
                        by_cases c22 : x21_2 = x39_4
                        ·rw [if_pos c22] at H
                         have c22b0 : (x21_2 == x39_4) = true := beq_iff_eq.mpr c22
                         have c22b1 : (x21_2 != x39_4) = false := bne_eq_false_iff_eq.mpr c22
                         clear c22
                         have H' := Aside0.mk H
                         clear H
                         have p243 : 0 ≤ (x39_4 : Int) := of_decide_eq_true (by first | (with_reducible assumption) | assumption)
                         have q243 : x39_4 < (l0.length : Int) := of_decide_eq_true (by first | (with_reducible assumption) | assumption)
                         obtain ⟨ad243, A243_0, c243_0, e243, hx243_0, hl243_0, hi243_0⟩ := at_L1 HR0.out x39_4 p243 q243
                         obtain rfl : ad240 = ad243 := (by injection e243)
                         have HR243_0 := Aside0.mk hi243_0
                         have HC243_0 := Aside0.mk hl243_0
                         clear hi243_0 hl243_0
                         replace p243 := eq_true p243
                         replace q243 := eq_true q243
                         go_wp2
                         go_roundg kj14
                         case measure => have := HJ1.out; have := HK2.out; have := HJ7.out; have := HK4.out; have := HJ14.out; omega
                         case rel => exact ⟨(wrap64 (x39_4 + 1)), (by first | rfl | (simp; done) | (simp [*]; done)), H', ⟨by have := HJ1.out; have := HK2.out; have := HJ7.out; have := HK4.out; have := HJ14.out; omega⟩, by repeat (first | exact Drawn0.refl _ | apply Drawn0.step)⟩
                        ·rw [if_neg c22] at H
                         have c22b0 : (x21_2 == x39_4) = false := beq_eq_false_iff_ne.mpr c22
                         have c22b1 : (x21_2 != x39_4) = true := bne_iff_ne.mpr c22
                         by_cases c23 : 0 ≤ x21_2
                         ·rw [if_pos c23] at H
                          have c23b0 : decide (0 ≤ x21_2) = true := decide_eq_true c23
                          clear c23
                          by_cases c24 : x21_2 < ((rd_L1 l0 x39_4).length : Int)
                          ·rw [if_pos c24] at H
                           have c24b0 : decide (x21_2 < ((rd_L1 l0 x39_4).length : Int)) = true := decide_eq_true c24
                           clear c24
                           by_cases c25 : (rd (rd_L1 l0 x39_4) x21_2) = 1
                           ·rw [if_pos c25] at H
                            have c25b0 : ((rd (rd_L1 l0 x39_4) x21_2) == 1) = true := beq_iff_eq.mpr c25
                            have c25b1 : ((rd (rd_L1 l0 x39_4) x21_2) != 1) = false := bne_eq_false_iff_eq.mpr c25
                            clear c25
                            obtain rfl := Option.some.inj H
                            have p243 : 0 ≤ (x39_4 : Int) := of_decide_eq_true (by first | (with_reducible assumption) | assumption)
                            have q243 : x39_4 < (l0.length : Int) := of_decide_eq_true (by first | (with_reducible assumption) | assumption)
                            obtain ⟨ad243, A243_0, c243_0, e243, hx243_0, hl243_0, hi243_0⟩ := at_L1 HR0.out x39_4 p243 q243
                            obtain rfl : ad240 = ad243 := (by injection e243)
                            have HR243_0 := Aside0.mk hi243_0
                            have HC243_0 := Aside0.mk hl243_0
                            clear hi243_0 hl243_0
                            replace p243 := eq_true p243
                            replace q243 := eq_true q243
                            have p244 : 0 ≤ (x39_4 : Int) := of_decide_eq_true (by first | (with_reducible assumption) | assumption)
                            have q244 : x39_4 < (l0.length : Int) := of_decide_eq_true (by first | (with_reducible assumption) | assumption)
                            obtain ⟨ad244, A244_0, c244_0, e244, hx244_0, hl244_0, hi244_0⟩ := at_L1 HR0.out x39_4 p244 q244
                            obtain rfl : ad240 = ad244 := (by injection e244)
                            have HR244_0 := Aside0.mk hi244_0
                            have HC244_0 := Aside0.mk hl244_0
                            clear hi244_0 hl244_0
                            replace p244 := eq_true p244
                            replace q244 := eq_true q244
                            have ea_ := Option.some.inj (hx243_0.symm.trans hx244_0)
                            injection ea_ with ea_ en_ ec_
                            subst ea_
                            subst ec_
                            clear en_
                            have p245 : 0 ≤ (x21_2 : Int) := of_decide_eq_true (by first | (with_reducible assumption) | assumption)
                            have q245 : x21_2 < ((rd_L1 l0 x39_4).length : Int) := of_decide_eq_true (by first | (with_reducible assumption) | assumption)
                            obtain ⟨ad245, e245, hx245_0⟩ := Kd.at_int HR244_0.out x21_2 p245 q245
                            cases e245
                            replace p245 := eq_true p245
                            replace q245 := eq_true q245
                            go_wp2
                            go_ret
                            exact ⟨by first | rfl | (simp; done) | (simp [*]; done), by repeat (first | exact Drawn0.refl _ | apply Drawn0.step)⟩
                           ·rw [if_neg c25] at H
                            have c25b0 : ((rd (rd_L1 l0 x39_4) x21_2) == 1) = false := beq_eq_false_iff_ne.mpr c25
                            have c25b1 : ((rd (rd_L1 l0 x39_4) x21_2) != 1) = true := bne_iff_ne.mpr c25
                            have H' := Aside0.mk H
                            clear H
                            have p243 : 0 ≤ (x39_4 : Int) := of_decide_eq_true (by first | (with_reducible assumption) | assumption)
                            have q243 : x39_4 < (l0.length : Int) := of_decide_eq_true (by first | (with_reducible assumption) | assumption)
                            obtain ⟨ad243, A243_0, c243_0, e243, hx243_0, hl243_0, hi243_0⟩ := at_L1 HR0.out x39_4 p243 q243
                            obtain rfl : ad240 = ad243 := (by injection e243)
                            have HR243_0 := Aside0.mk hi243_0
                            have HC243_0 := Aside0.mk hl243_0
                            clear hi243_0 hl243_0
                            replace p243 := eq_true p243
                            replace q243 := eq_true q243
                            have p244 : 0 ≤ (x39_4 : Int) := of_decide_eq_true (by first | (with_reducible assumption) | assumption)
                            have q244 : x39_4 < (l0.length : Int) := of_decide_eq_true (by first | (with_reducible assumption) | assumption)
                            obtain ⟨ad244, A244_0, c244_0, e244, hx244_0, hl244_0, hi244_0⟩ := at_L1 HR0.out x39_4 p244 q244
                            obtain rfl : ad240 = ad244 := (by injection e244)
                            have HR244_0 := Aside0.mk hi244_0
                            have HC244_0 := Aside0.mk hl244_0
                            clear hi244_0 hl244_0
                            replace p244 := eq_true p244
                            replace q244 := eq_true q244
                            have ea_ := Option.some.inj (hx243_0.symm.trans hx244_0)
                            injection ea_ with ea_ en_ ec_
                            subst ea_
                            subst ec_
                            clear en_
                            have p245 : 0 ≤ (x21_2 : Int) := of_decide_eq_true (by first | (with_reducible assumption) | assumption)
                            have q245 : x21_2 < ((rd_L1 l0 x39_4).length : Int) := of_decide_eq_true (by first | (with_reducible assumption) | assumption)
                            obtain ⟨ad245, e245, hx245_0⟩ := Kd.at_int HR244_0.out x21_2 p245 q245
                            cases e245
                            replace p245 := eq_true p245
                            replace q245 := eq_true q245
                            go_wp2
                            go_roundg kj14
                            case measure => have := HJ1.out; have := HK2.out; have := HJ7.out; have := HK4.out; have := HJ14.out; omega
                            case rel => exact ⟨(wrap64 (x39_4 + 1)), (by first | rfl | (simp; done) | (simp [*]; done)), H', ⟨by have := HJ1.out; have := HK2.out; have := HJ7.out; have := HK4.out; have := HJ14.out; omega⟩, by repeat (first | exact Drawn0.refl _ | apply Drawn0.step)⟩
                          ·rw [if_neg c24] at H
                           exact absurd H (by simp)
                         ·rw [if_neg c23] at H
                          exact absurd H (by simp)
                       ·rw [if_neg c21] at H
                        have c21b0 : ((rd (rd_L1 l0 x21_2) x39_4) == 1) = false := beq_eq_false_iff_ne.mpr c21
                        have c21b1 : ((rd (rd_L1 l0 x21_2) x39_4) != 1) = true := bne_iff_ne.mpr c21
                        have H' := Aside0.mk H
                        clear H
                        have p243 : 0 ≤ (x39_4 : Int) := of_decide_eq_true (by first | (with_reducible assumption) | assumption)
                        have q243 : x39_4 < (l0.length : Int) := of_decide_eq_true (by first | (with_reducible assumption) | assumption)
                        obtain ⟨ad243, A243_0, c243_0, e243, hx243_0, hl243_0, hi243_0⟩ := at_L1 HR0.out x39_4 p243 q243
                        obtain rfl : ad240 = ad243 := (by injection e243)
                        have HR243_0 := Aside0.mk hi243_0
                        have HC243_0 := Aside0.mk hl243_0
                        clear hi243_0 hl243_0
                        replace p243 := eq_true p243
                        replace q243 := eq_true q243
                        go_wp2
                        go_roundg kj14
                        case measure => have := HJ1.out; have := HK2.out; have := HJ7.out; have := HK4.out; have := HJ14.out; omega
                        case rel => exact ⟨(wrap64 (x39_4 + 1)), (by first | rfl | (simp; done) | (simp [*]; done)), H', ⟨by have := HJ1.out; have := HK2.out; have := HJ7.out; have := HK4.out; have := HJ14.out; omega⟩, by repeat (first | exact Drawn0.refl _ | apply Drawn0.step)⟩
                      ·rw [if_neg c20] at H
                       have c20b0 : (((rd_L1 l0 x39_4).length : Int) == (l0.length : Int)) = false := beq_eq_false_iff_ne.mpr c20
                       have c20b1 : (((rd_L1 l0 x39_4).length : Int) != (l0.length : Int)) = true := bne_iff_ne.mpr c20
                       have c20b2 : ((rd_L1 l0 x39_4).length == l0.length) = false := by first | simpa using c20 | (simp at c20 ⊢; omega)
                       obtain rfl := Option.some.inj H
                       have p243 : 0 ≤ (x39_4 : Int) := of_decide_eq_true (by first | (with_reducible assumption) | assumption)
                       have q243 : x39_4 < (l0.length : Int) := of_decide_eq_true (by first | (with_reducible assumption) | assumption)
                       obtain ⟨ad243, A243_0, c243_0, e243, hx243_0, hl243_0, hi243_0⟩ := at_L1 HR0.out x39_4 p243 q243
                       obtain rfl : ad240 = ad243 := (by injection e243)
                       have HR243_0 := Aside0.mk hi243_0
                       have HC243_0 := Aside0.mk hl243_0
                       clear hi243_0 hl243_0
                       replace p243 := eq_true p243
                       replace q243 := eq_true q243
                       go_wp2
                       go_ret
                       exact ⟨by first | rfl | (simp; done) | (simp [*]; done), by repeat (first | exact Drawn0.refl _ | apply Drawn0.step)⟩
                     ·rw [if_neg c19] at H
                      exact absurd H (by simp)
                    ·rw [if_neg c18] at H
                     exact absurd H (by simp)
                ·rw [if_neg c14] at H
                 exact absurd H (by simp)
               ·rw [if_neg c13] at H
                exact absurd H (by simp)
              ·rw [if_neg c12] at H
               have c12b0 : decide (x39_4 < ((rd_L1 l0 x21_2).length : Int)) = false := decide_eq_false c12
               clear c12
               have H' := Aside0.mk H
               clear H
               go_wp2
               go_roundg k4
               case measure => have := HJ1.out; have := HK2.out; have := HJ7.out; have := HK4.out; omega
               case rel => exact ⟨(wrap64 (x21_2 + 1)), (by first | rfl | (simp; done) | (simp [*]; done)), H', ⟨by have := HJ1.out; have := HK2.out; have := HJ7.out; have := HK4.out; omega⟩, by repeat (first | exact Drawn0.refl _ | apply Drawn0.step)⟩
        ·rw [if_neg c7] at H
         exact absurd H (by simp)
       ·rw [if_neg c6] at H
        exact absurd H (by simp)
      ·rw [if_neg c5] at H
       have c5b0 : decide (x21_2 < (l0.length : Int)) = false := decide_eq_false c5
       clear c5
       have H' := Aside0.mk H
       clear H
       go_wp2
       go_loopg [79] k2 (fun kq v79 w' => ∃ (x79_3 : Int), v79 = .int .i64 x79_3 ∧ Aside0 (impl_OrderOk.l2 kq l0 (l0.length : Int) (l0.length : Int) x79_3 = some r) ∧ Aside0 (kq ≤ k2) ∧ Drawn0 w w')
       case atStart => exact ⟨(0), (by first | rfl | (simp; done) | (simp [*]; done)), H', ⟨Nat.le_refl _⟩, by repeat (first | exact Drawn0.refl _ | apply Drawn0.step)⟩
       case round =>
        clear H'
        try clear c1
        try clear c2
        try clear p2
        try clear q2
        try clear hx2
        try clear c3
        try clear c3b0
        try clear c3b1
        try clear c4
        try clear c5
        try clear c5b0
        try clear c6
        try clear c6b0
        try clear p6
        try clear c7
        try clear c7b0
        try clear c9
        try clear c9b0
        try clear c9b1
        try clear c9b2
        try clear c10
        try clear c10b0
        try clear c11
        try clear c12
        try clear c12b0
        try clear c13
        try clear c13b0
        try clear c14
        try clear c14b0
        try clear c16
        try clear c16b0
        try clear c16b1
        try clear c17
        try clear c18
        try clear c18b0
        try clear c19
        try clear c19b0
        try clear c20
        try clear c20b0
        try clear c20b1
        try clear c20b2
        try clear c21
        try clear c21b0
        try clear c21b1
        try clear c22
        try clear c22b0
        try clear c22b1
        try clear c23
        try clear c23b0
        try clear c24
        try clear c24b0
        try clear p24
        try clear q24
        try clear hx24
        try clear c25
        try clear c25b0
        try clear c25b1
        try clear hx240_0
        try clear hx241_0
        try clear hx242_0
        try clear hx243_0
        try clear hx244_0
        try clear hx245_0
        try clear p2
        try clear p240
        try clear p241
        try clear p242
        try clear p243
        try clear p244
        try clear p245
        try clear q2
        try clear q240
        try clear q241
        try clear q242
        try clear q243
        try clear q244
        try clear q245
        obtain ⟨x79_3, rfl, HA, HK3, ⟨m3, rfl⟩⟩ := hrel
        cases gk with
        | zero => exact absurd HA.out (by simp [impl_OrderOk.l2])
        | succ k3 =>
         have H := HA.out
         clear HA
         simp only [impl_OrderOk.l2] at H
         by_cases c26 : x79_3 < (l0.length : Int)
         ·rw [if_pos c26] at H
          have c26b0 : decide (x79_3 < (l0.length : Int)) = true := decide_eq_true c26
          clear c26
          have H' := Aside0.mk H
          clear H
          go_wp2
          go_loopg [83] k3 (fun kq v83 w' => ∃ (x83_4 : Int), v83 = .int .i64 x83_4 ∧ Aside0 (impl_OrderOk.l3 kq l0 (l0.length : Int) x79_3 (l0.length : Int) x79_3 (l0.length : Int) x83_4 = some r) ∧ Aside0 (kq ≤ k3) ∧ Drawn0 w w')
          case atStart => exact ⟨(0), (by first | rfl | (simp; done) | (simp [*]; done)), H', ⟨Nat.le_refl _⟩, by repeat (first | exact Drawn0.refl _ | apply Drawn0.step)⟩
          case round =>
           clear H'
           try clear c1
           try clear c2
           try clear p2
           try clear q2
           try clear hx2
           try clear c3
           try clear c3b0
           try clear c3b1
           try clear c4
           try clear c5
           try clear c5b0
           try clear c6
           try clear c6b0
           try clear p6
           try clear c7
           try clear c7b0
           try clear c9
           try clear c9b0
           try clear c9b1
           try clear c9b2
           try clear c10
           try clear c10b0
           try clear c11
           try clear c12
           try clear c12b0
           try clear c13
           try clear c13b0
           try clear c14
           try clear c14b0
           try clear c16
           try clear c16b0
           try clear c16b1
           try clear c17
           try clear c18
           try clear c18b0
           try clear c19
           try clear c19b0
           try clear c20
           try clear c20b0
           try clear c20b1
           try clear c20b2
           try clear c21
           try clear c21b0
           try clear c21b1
           try clear c22
           try clear c22b0
           try clear c22b1
           try clear c23
           try clear c23b0
           try clear c24
           try clear c24b0
           try clear p24
           try clear q24
           try clear hx24
           try clear c25
           try clear c25b0
           try clear c25b1
           try clear c26
           try clear c26b0
           try clear hx240_0
           try clear hx241_0
           try clear hx242_0
           try clear hx243_0
           try clear hx244_0
           try clear hx245_0
           try clear p2
           try clear p24
           try clear p240
           try clear p241
           try clear p242
           try clear p243
           try clear p244
           try clear p245
           try clear p6
           try clear q2
           try clear q24
           try clear q240
           try clear q241
           try clear q242
           try clear q243
           try clear q244
           try clear q245
           obtain ⟨x83_4, rfl, HA, HK4, ⟨m4, rfl⟩⟩ := hrel
           cases gk with
           | zero => exact absurd HA.out (by simp [impl_OrderOk.l3])
           | succ k4 =>
            have H := HA.out
            clear HA
            simp only [impl_OrderOk.l3] at H
            by_cases c27 : x83_4 < (l0.length : Int)
            ·rw [if_pos c27] at H
             have c27b0 : decide (x83_4 < (l0.length : Int)) = true := decide_eq_true c27
             clear c27
             have H' := Aside0.mk H
             clear H
             go_wp2
             go_loopg [87] k4 (fun kq v87 w' => ∃ (x87_5 : Int), v87 = .int .i64 x87_5 ∧ Aside0 (impl_OrderOk.l4 kq l0 (l0.length : Int) x79_3 x83_4 (l0.length : Int) x79_3 (l0.length : Int) x83_4 (l0.length : Int) x87_5 = some r) ∧ Aside0 (kq ≤ k4) ∧ Drawn0 w w')
             case atStart => exact ⟨(0), (by first | rfl | (simp; done) | (simp [*]; done)), H', ⟨Nat.le_refl _⟩, by repeat (first | exact Drawn0.refl _ | apply Drawn0.step)⟩
             case round =>
              clear H'
              try clear c1
              try clear c2
              try clear p2
              try clear q2
              try clear hx2
              try clear c3
              try clear c3b0
              try clear c3b1
              try clear c4
              try clear c5
              try clear c5b0
              try clear c6
              try clear c6b0
              try clear p6
              try clear c7
              try clear c7b0
              try clear c9
              try clear c9b0
              try clear c9b1
              try clear c9b2
              try clear c10
              try clear c10b0
              try clear c11
              try clear c12
              try clear c12b0
              try clear c13
              try clear c13b0
              try clear c14
              try clear c14b0
              try clear c16
              try clear c16b0
              try clear c16b1
              try clear c17
              try clear c18
              try clear c18b0
              try clear c19
              try clear c19b0
              try clear c20
              try clear c20b0
              try clear c20b1
              try clear c20b2
              try clear c21
              try clear c21b0
              try clear c21b1
              try clear c22
              try clear c22b0
              try clear c22b1
              try clear c23
              try clear c23b0
              try clear c24
              try clear c24b0
              try clear p24
              try clear q24
              try clear hx24
              try clear c25
              try clear c25b0
              try clear c25b1
              try clear c26
              try clear c26b0
              try clear c27
              try clear c27b0
              try clear hx240_0
              try clear hx241_0
              try clear hx242_0
              try clear hx243_0
              try clear hx244_0
              try clear hx245_0
              try clear p2
              try clear p24
              try clear p240
              try clear p241
              try clear p242
              try clear p243
              try clear p244
              try clear p245
              try clear p6
              try clear q2
              try clear q24
              try clear q240
              try clear q241
              try clear q242
              try clear q243
              try clear q244
              try clear q245
              obtain ⟨x87_5, rfl, HA, HK5, ⟨m5, rfl⟩⟩ := hrel
              cases gk with
              | zero => exact absurd HA.out (by simp [impl_OrderOk.l4])
              | succ k5 =>
               have H := HA.out
               clear HA
               simp only [impl_OrderOk.l4] at H
               by_cases c28 : x87_5 < (l0.length : Int)
               ·rw [if_pos c28] at H
                have c28b0 : decide (x87_5 < (l0.length : Int)) = true := decide_eq_true c28
                clear c28
                by_cases c29 : 0 ≤ x79_3
                ·rw [if_pos c29] at H
                 have c29b0 : decide (0 ≤ x79_3) = true := decide_eq_true c29
                 clear c29
                 by_cases c30 : x79_3 < (l0.length : Int)
                 ·rw [if_pos c30] at H
                  have c30b0 : decide (x79_3 < (l0.length : Int)) = true := decide_eq_true c30
                  clear c30
                  by_cases c31 : 0 ≤ x83_4
                  ·rw [if_pos c31] at H
                   have c31b0 : decide (0 ≤ x83_4) = true := decide_eq_true c31
                   clear c31
                   by_cases c32 : x83_4 < ((rd_L1 l0 x79_3).length : Int)
                   ·rw [if_pos c32] at H
                    have c32b0 : decide (x83_4 < ((rd_L1 l0 x79_3).length : Int)) = true := decide_eq_true c32
                    clear c32
                    by_cases c33 : (rd (rd_L1 l0 x79_3) x83_4) = 1
                    ·rw [if_pos c33] at H
                     have c33b0 : ((rd (rd_L1 l0 x79_3) x83_4) == 1) = true := beq_iff_eq.mpr c33
                     have c33b1 : ((rd (rd_L1 l0 x79_3) x83_4) != 1) = false := bne_eq_false_iff_eq.mpr c33
                     clear c33
                     by_cases c34 : x83_4 < (l0.length : Int)
                     ·rw [if_pos c34] at H
                      have c34b0 : decide (x83_4 < (l0.length : Int)) = true := decide_eq_true c34
                      clear c34
                      by_cases c35 : 0 ≤ x87_5
                      ·rw [if_pos c35] at H
                       have c35b0 : decide (0 ≤ x87_5) = true := decide_eq_true c35
                       clear c35
                       by_cases c36 : x87_5 < ((rd_L1 l0 x83_4).length : Int)
                       ·rw [if_pos c36] at H
                        have c36b0 : decide (x87_5 < ((rd_L1 l0 x83_4).length : Int)) = true := decide_eq_true c36
                        clear c36
                        by_cases c37 : (rd (rd_L1 l0 x83_4) x87_5) = 1
                        ·rw [if_pos c37] at H
                         have c37b0 : ((rd (rd_L1 l0 x83_4) x87_5) == 1) = true := beq_iff_eq.mpr c37
                         have c37b1 : ((rd (rd_L1 l0 x83_4) x87_5) != 1) = false := bne_eq_false_iff_eq.mpr c37
                         clear c37
                         by_cases c38 : x87_5 < ((rd_L1 l0 x79_3).length : Int)
                         ·rw [if_pos c38] at H
                          have c38b0 : decide (x87_5 < ((rd_L1 l0 x79_3).length : Int)) = true := decide_eq_true c38
                          clear c38
                          by_cases c39 : (rd (rd_L1 l0 x79_3) x87_5) = 1
                          ·rw [if_pos c39] at H
                           have c39b0 : ((rd (rd_L1 l0 x79_3) x87_5) == 1) = true := beq_iff_eq.mpr c39
                           have c39b1 : ((rd (rd_L1 l0 x79_3) x87_5) != 1) = false := bne_eq_false_iff_eq.mpr c39
                           clear c39
                           have H' := Aside0.mk H
                           clear H
                           have p246 : 0 ≤ (x79_3 : Int) := of_decide_eq_true (by first | (with_reducible assumption) | assumption)
                           have q246 : x79_3 < (l0.length : Int) := of_decide_eq_true (by first | (with_reducible assumption) | assumption)
                           obtain ⟨ad246, A246_0, c246_0, e246, hx246_0, hl246_0, hi246_0⟩ := at_L1 HR0.out x79_3 p246 q246
                           cases e246
                           have HR246_0 := Aside0.mk hi246_0
                           have HC246_0 := Aside0.mk hl246_0
                           clear hi246_0 hl246_0
                           replace p246 := eq_true p246
                           replace q246 := eq_true q246
                           have p247 : 0 ≤ (x83_4 : Int) := of_decide_eq_true (by first | (with_reducible assumption) | assumption)
                           have q247 : x83_4 < ((rd_L1 l0 x79_3).length : Int) := of_decide_eq_true (by first | (with_reducible assumption) | assumption)
                           obtain ⟨ad247, e247, hx247_0⟩ := Kd.at_int HR246_0.out x83_4 p247 q247
                           cases e247
                           replace p247 := eq_true p247
                           replace q247 := eq_true q247
                           have p248 : 0 ≤ (x83_4 : Int) := of_decide_eq_true (by first | (with_reducible assumption) | assumption)
                           have q248 : x83_4 < (l0.length : Int) := of_decide_eq_true (by first | (with_reducible assumption) | assumption)
                           obtain ⟨ad248, A248_0, c248_0, e248, hx248_0, hl248_0, hi248_0⟩ := at_L1 HR0.out x83_4 p248 q248
                           obtain rfl : ad246 = ad248 := (by injection e248)
                           have HR248_0 := Aside0.mk hi248_0
                           have HC248_0 := Aside0.mk hl248_0
                           clear hi248_0 hl248_0
                           replace p248 := eq_true p248
                           replace q248 := eq_true q248
                           have p249 : 0 ≤ (x87_5 : Int) := of_decide_eq_true (by first | (with_reducible assumption) | assumption)
                           have q249 : x87_5 < ((rd_L1 l0 x83_4).length : Int) := of_decide_eq_true (by first | (with_reducible assumption) | assumption)
                           obtain ⟨ad249, e249, hx249_0⟩ := Kd.at_int HR248_0.out x87_5 p249 q249
                           cases e249
                           replace p249 := eq_true p249
                           replace q249 := eq_true q249
                           have p250 : 0 ≤ (x79_3 : Int) := of_decide_eq_true (by first | (with_reducible assumption) | assumption)
                           have q250 : x79_3 < (l0.length : Int) := of_decide_eq_true (by first | (with_reducible assumption) | assumption)
                           obtain ⟨ad250, A250_0, c250_0, e250, hx250_0, hl250_0, hi250_0⟩ := at_L1 HR0.out x79_3 p250 q250
                           obtain rfl : ad246 = ad250 := (by injection e250)
                           have HR250_0 := Aside0.mk hi250_0
                           have HC250_0 := Aside0.mk hl250_0
                           clear hi250_0 hl250_0
                           replace p250 := eq_true p250
                           replace q250 := eq_true q250
                           have ea_ := Option.some.inj (hx246_0.symm.trans hx250_0)
                           injection ea_ with ea_ en_ ec_
                           subst ea_
                           subst ec_
                           clear en_
                           have p251 : 0 ≤ (x87_5 : Int) := of_decide_eq_true (by first | (with_reducible assumption) | assumption)
                           have q251 : x87_5 < ((rd_L1 l0 x79_3).length : Int) := of_decide_eq_true (by first | (with_reducible assumption) | assumption)
                           obtain ⟨ad251, e251, hx251_0⟩ := Kd.at_int HR250_0.out x87_5 p251 q251
                           cases e251
                           replace p251 := eq_true p251
                           replace q251 := eq_true q251
                           go_wp2
                           go_roundg k5
                           case measure => have := HJ1.out; have := HK2.out; have := HK3.out; have := HK4.out; have := HK5.out; omega
                           case rel => exact ⟨(wrap64 (x87_5 + 1)), (by first | rfl | (simp; done) | (simp [*]; done)), H', ⟨by have := HJ1.out; have := HK2.out; have := HK3.out; have := HK4.out; have := HK5.out; omega⟩, by repeat (first | exact Drawn0.refl _ | apply Drawn0.step)⟩
                          ·rw [if_neg c39] at H
                           have c39b0 : ((rd (rd_L1 l0 x79_3) x87_5) == 1) = false := beq_eq_false_iff_ne.mpr c39
                           have c39b1 : ((rd (rd_L1 l0 x79_3) x87_5) != 1) = true := bne_iff_ne.mpr c39
                           obtain rfl := Option.some.inj H
                           have p246 : 0 ≤ (x79_3 : Int) := of_decide_eq_true (by first | (with_reducible assumption) | assumption)
                           have q246 : x79_3 < (l0.length : Int) := of_decide_eq_true (by first | (with_reducible assumption) | assumption)
                           obtain ⟨ad246, A246_0, c246_0, e246, hx246_0, hl246_0, hi246_0⟩ := at_L1 HR0.out x79_3 p246 q246
                           cases e246
                           have HR246_0 := Aside0.mk hi246_0
                           have HC246_0 := Aside0.mk hl246_0
                           clear hi246_0 hl246_0
                           replace p246 := eq_true p246
                           replace q246 := eq_true q246
                           have p247 : 0 ≤ (x83_4 : Int) := of_decide_eq_true (by first | (with_reducible assumption) | assumption)
                           have q247 : x83_4 < ((rd_L1 l0 x79_3).length : Int) := of_decide_eq_true (by first | (with_reducible assumption) | assumption)
                           obtain ⟨ad247, e247, hx247_0⟩ := Kd.at_int HR246_0.out x83_4 p247 q247
                           cases e247
                           replace p247 := eq_true p247
                           replace q247 := eq_true q247
                           have p248 : 0 ≤ (x83_4 : Int) := of_decide_eq_true (by first | (with_reducible assumption) | assumption)
                           have q248 : x83_4 < (l0.length : Int) := of_decide_eq_true (by first | (with_reducible assumption) | assumption)
                           obtain ⟨ad248, A248_0, c248_0, e248, hx248_0, hl248_0, hi248_0⟩ := at_L1 HR0.out x83_4 p248 q248
                           obtain rfl : ad246 = ad248 := (by injection e248)
                           have HR248_0 := Aside0.mk hi248_0
                           have HC248_0 := Aside0.mk hl248_0
                           clear hi248_0 hl248_0
                           replace p248 := eq_true p248
                           replace q248 := eq_true q248
                           have p249 : 0 ≤ (x87_5 : Int) := of_decide_eq_true (by first | (with_reducible assumption) | assumption)
                           have q249 : x87_5 < ((rd_L1 l0 x83_4).length : Int) := of_decide_eq_true (by first | (with_reducible assumption) | assumption)
                           obtain ⟨ad249, e249, hx249_0⟩ := Kd.at_int HR248_0.out x87_5 p249 q249
                           cases e249
                           replace p249 := eq_true p249
                           replace q249 := eq_true q249
                           have p250 : 0 ≤ (x79_3 : Int) := of_decide_eq_true (by first | (with_reducible assumption) | assumption)
                           have q250 : x79_3 < (l0.length : Int) := of_decide_eq_true (by first | (with_reducible assumption) | assumption)
                           obtain ⟨ad250, A250_0, c250_0, e250, hx250_0, hl250_0, hi250_0⟩ := at_L1 HR0.out x79_3 p250 q250
                           obtain rfl : ad246 = ad250 := (by injection e250)
                           have HR250_0 := Aside0.mk hi250_0
                           have HC250_0 := Aside0.mk hl250_0
                           clear hi250_0 hl250_0
                           replace p250 := eq_true p250
                           replace q250 := eq_true q250
                           have ea_ := Option.some.inj (hx246_0.symm.trans hx250_0)
                           injection ea_ with ea_ en_ ec_
                           subst ea_
                           subst ec_
                           clear en_
                           have p251 : 0 ≤ (x87_5 : Int) := of_decide_eq_true (by first | (with_reducible assumption) | assumption)
                           have q251 : x87_5 < ((rd_L1 l0 x79_3).length : Int) := of_decide_eq_true (by first | (with_reducible assumption) | assumption)
                           obtain ⟨ad251, e251, hx251_0⟩ := Kd.at_int HR250_0.out x87_5 p251 q251
                           cases e251
                           replace p251 := eq_true p251
                           replace q251 := eq_true q251
                           go_wp2
                           go_ret
                           exact ⟨by first | rfl | (simp; done) | (simp [*]; done), by repeat (first | exact Drawn0.refl _ | apply Drawn0.step)⟩
                         ·rw [if_neg c38] at H
                          exact absurd H (by simp)
                        ·rw [if_neg c37] at H
                         have c37b0 : ((rd (rd_L1 l0 x83_4) x87_5) == 1) = false := beq_eq_false_iff_ne.mpr c37
                         have c37b1 : ((rd (rd_L1 l0 x83_4) x87_5) != 1) = true := bne_iff_ne.mpr c37
                         have H' := Aside0.mk H
                         clear H
                         have p246 : 0 ≤ (x79_3 : Int) := of_decide_eq_true (by first | (with_reducible assumption) | assumption)
                         have q246 : x79_3 < (l0.length : Int) := of_decide_eq_true (by first | (with_reducible assumption) | assumption)
                         obtain ⟨ad246, A246_0, c246_0, e246, hx246_0, hl246_0, hi246_0⟩ := at_L1 HR0.out x79_3 p246 q246
                         cases e246
                         have HR246_0 := Aside0.mk hi246_0
                         have HC246_0 := Aside0.mk hl246_0
                         clear hi246_0 hl246_0
                         replace p246 := eq_true p246
                         replace q246 := eq_true q246
                         have p247 : 0 ≤ (x83_4 : Int) := of_decide_eq_true (by first | (with_reducible assumption) | assumption)
                         have q247 : x83_4 < ((rd_L1 l0 x79_3).length : Int) := of_decide_eq_true (by first | (with_reducible assumption) | assumption)
                         obtain ⟨ad247, e247, hx247_0⟩ := Kd.at_int HR246_0.out x83_4 p247 q247
                         cases e247
                         replace p247 := eq_true p247
                         replace q247 := eq_true q247
                         have p248 : 0 ≤ (x83_4 : Int) := of_decide_eq_true (by first | (with_reducible assumption) | assumption)
                         have q248 : x83_4 < (l0.length : Int) := of_decide_eq_true (by first | (with_reducible assumption) | assumption)
                         obtain ⟨ad248, A248_0, c248_0, e248, hx248_0, hl248_0, hi248_0⟩ := at_L1 HR0.out x83_4 p248 q248
                         obtain rfl : ad246 = ad248 := (by injection e248)
                         have HR248_0 := Aside0.mk hi248_0
                         have HC248_0 := Aside0.mk hl248_0
                         clear hi248_0 hl248_0
                         replace p248 := eq_true p248
                         replace q248 := eq_true q248
                         have p249 : 0 ≤ (x87_5 : Int) := of_decide_eq_true (by first | (with_reducible assumption) | assumption)
                         have q249 : x87_5 < ((rd_L1 l0 x83_4).length : Int) := of_decide_eq_true (by first | (with_reducible assumption) | assumption)
                         obtain ⟨ad249, e249, hx249_0⟩ := Kd.at_int HR248_0.out x87_5 p249 q249
                         cases e249
                         replace p249 := eq_true p249
                         replace q249 := eq_true q249
                         go_wp2
                         go_roundg k5
                         case measure => have := HJ1.out; have := HK2.out; have := HK3.out; have := HK4.out; have := HK5.out; omega
                         case rel => exact ⟨(wrap64 (x87_5 + 1)), (by first | rfl | (simp; done) | (simp [*]; done)), H', ⟨by have := HJ1.out; have := HK2.out; have := HK3.out; have := HK4.out; have := HK5.out; omega⟩, by repeat (first | exact Drawn0.refl _ | apply Drawn0.step)⟩
                       ·rw [if_neg c36] at H
                        exact absurd H (by simp)
                      ·rw [if_neg c35] at H
                       exact absurd H (by simp)
                     ·rw [if_neg c34] at H
                      exact absurd H (by simp)
                    ·rw [if_neg c33] at H
                     have c33b0 : ((rd (rd_L1 l0 x79_3) x83_4) == 1) = false := beq_eq_false_iff_ne.mpr c33
                     have c33b1 : ((rd (rd_L1 l0 x79_3) x83_4) != 1) = true := bne_iff_ne.mpr c33
                     have H' := Aside0.mk H
                     clear H
                     have p246 : 0 ≤ (x79_3 : Int) := of_decide_eq_true (by first | (with_reducible assumption) | assumption)
                     have q246 : x79_3 < (l0.length : Int) := of_decide_eq_true (by first | (with_reducible assumption) | assumption)
                     obtain ⟨ad246, A246_0, c246_0, e246, hx246_0, hl246_0, hi246_0⟩ := at_L1 HR0.out x79_3 p246 q246
                     cases e246
                     have HR246_0 := Aside0.mk hi246_0
                     have HC246_0 := Aside0.mk hl246_0
                     clear hi246_0 hl246_0
                     replace p246 := eq_true p246
                     replace q246 := eq_true q246
                     have p247 : 0 ≤ (x83_4 : Int) := of_decide_eq_true (by first | (with_reducible assumption) | assumption)
                     have q247 : x83_4 < ((rd_L1 l0 x79_3).length : Int) := of_decide_eq_true (by first | (with_reducible assumption) | assumption)
                     obtain ⟨ad247, e247, hx247_0⟩ := Kd.at_int HR246_0.out x83_4 p247 q247
                     cases e247
                     replace p247 := eq_true p247
                     replace q247 := eq_true q247
                     go_wp2
                     go_roundg k5
                     case measure => have := HJ1.out; have := HK2.out; have := HK3.out; have := HK4.out; have := HK5.out; omega
                     case rel => exact ⟨(wrap64 (x87_5 + 1)), (by first | rfl | (simp; done) | (simp [*]; done)), H', ⟨by have := HJ1.out; have := HK2.out; have := HK3.out; have := HK4.out; have := HK5.out; omega⟩, by repeat (first | exact Drawn0.refl _ | apply Drawn0.step)⟩
                   ·rw [if_neg c32] at H
                    exact absurd H (by simp)
                  ·rw [if_neg c31] at H
                   exact absurd H (by simp)
                 ·rw [if_neg c30] at H
                  exact absurd H (by simp)
                ·rw [if_neg c29] at H
                 exact absurd H (by simp)
               ·rw [if_neg c28] at H
                have c28b0 : decide (x87_5 < (l0.length : Int)) = false := decide_eq_false c28
                clear c28
                have H' := Aside0.mk H
                clear H
                go_wp2
                go_roundg k5
                case measure => have := HJ1.out; have := HK2.out; have := HK3.out; have := HK4.out; have := HK5.out; omega
                case rel => exact ⟨(wrap64 (x83_4 + 1)), (by first | rfl | (simp; done) | (simp [*]; done)), H', ⟨by have := HJ1.out; have := HK2.out; have := HK3.out; have := HK4.out; have := HK5.out; omega⟩, by repeat (first | exact Drawn0.refl _ | apply Drawn0.step)⟩
            ·rw [if_neg c27] at H
             have c27b0 : decide (x83_4 < (l0.length : Int)) = false := decide_eq_false c27
             clear c27
             have H' := Aside0.mk H
             clear H
             go_wp2
             go_roundg k4
             case measure => have := HJ1.out; have := HK2.out; have := HK3.out; have := HK4.out; omega
             case rel => exact ⟨(wrap64 (x79_3 + 1)), (by first | rfl | (simp; done) | (simp [*]; done)), H', ⟨by have := HJ1.out; have := HK2.out; have := HK3.out; have := HK4.out; omega⟩, by repeat (first | exact Drawn0.refl _ | apply Drawn0.step)⟩
         ·rw [if_neg c26] at H
          have c26b0 : decide (x79_3 < (l0.length : Int)) = false := decide_eq_false c26
          clear c26
          obtain rfl := Option.some.inj H
          go_wp2
          go_ret
          exact ⟨by first | rfl | (simp; done) | (simp [*]; done), by repeat (first | exact Drawn0.refl _ | apply Drawn0.step)⟩
end Go.Proofs.Ythideghgdmokkaa.Print
end
section
namespace Go.Proofs.Ythideghgdmokkaa.Print
open Go.RowKit Go.Proofs.YthideghgdmokkaaW.PrintWords Go.Proofs.YthideghgdmokkaaW.PrintLast Go.Proofs.YthideghgdmokkaaW.PrintMore
attribute [local go_sem] max2_int min2_int max_two min_two max_three min_three max_four min_four   -- for this text's walks alone
set_option linter.unusedVariables false
set_option linter.unusedSimpArgs false
mutual
def impl_turned.l0 : Nat → List (List Int) → List (List Int) → Int → Int → Option ((List (List Int)))
 | 0, _, _, _, _ => none
 | k + 1, x0, x3, x10, x11 => if x11 < x10 then (if 0 ≤ (x0.length : Int) then (if ((x0.length : Int) : Int).toNat ≤ 35184372088832 then (if 0 ≤ x11 then (if x11 < (x3.length : Int) then (impl_turned.l1 k x0 (x3.set (x11 : Int).toNat (List.replicate ((x0.length : Int) : Int).toNat 0)) x11 x10 x11 (x0.length : Int) 0) else (none)) else (none)) else (none)) else (none)) else (some x3)
def impl_turned.l1 : Nat → List (List Int) → List (List Int) → Int → Int → Int → Int → Int → Option ((List (List Int)))
 | 0, _, _, _, _, _, _, _ => none
 | k + 1, x0, x3, x4, x10, x11, x21, x22 => if x22 < x21 then (if 0 ≤ x4 then (if x4 < (x3.length : Int) then (if 0 ≤ x22 then (if x22 < (x0.length : Int) then (if x4 < ((rd_L1 x0 x22).length : Int) then (if x22 < ((rd_L1 x3 x4).length : Int) then (impl_turned.l1 k x0 (x3.set (x4 : Int).toNat ((rd_L1 x3 x4).set (x22 : Int).toNat (rd (rd_L1 x0 x22) x4))) x4 x10 x11 x21 (wrap64 (x22 + 1))) else (none)) else (none)) else (none)) else (none)) else (none)) else (none)) else (impl_turned.l0 k x0 x3 x10 (wrap64 (x11 + 1)))
end
def impl_turned.f (k : Nat) (l0 : List (List Int)) : Option ((List (List Int))) := if 0 ≤ (l0.length : Int) then (if ((l0.length : Int) : Int).toNat ≤ 11728124029610 then (impl_turned.l0 k l0 (List.replicate ((l0.length : Int) : Int).toNat []) (l0.length : Int) 0) else (none)) else (none)
def impl_turned.T9 : Bool × List (List Nat × List Nat) := (true, [([], []), ([], []), ([0, 1], [0, 1]), ([2], [2]), ([], []), ([], []), ([], []), ([5, 6], [5, 6]), ([7], [7]), ([], []), ([8, 9], [8, 9]), ([10], [10]), ([3, 4, 0, 1, 2, 3, 4, 5, 6, 7, 8, 9, 10, 11], [3, 4]), ([12, 11, 0, 1, 2, 3, 4, 5, 6, 7, 8, 9, 10, 11], [11, 12])])
def impl_turned.B9 : List Nat := [0, 0, 3, 7, 0, 0, 0, 96, 224, 0, 992, 2016, 4095, 8191]
theorem impl_turned.tab9 : rtab .any (opsOf Try.f104 9) = impl_turned.T9 := by kernel_rfl
theorem impl_turned.bits9 : waitsOk impl_turned.T9.2 impl_turned.B9 = true := by kernel_rfl
set_option maxHeartbeats 8000000 in
set_option maxRecDepth 100000 in
theorem impl_turned.calls (k : Nat) (A0 : Option Addr) (c0 : Nat) (l0 : List (List Int)) (r : List (List Int)) (w : World) (hr0 : Kd.C (Kd.slice 3 (Kd.int .i64)) w A0 l0.length l0) (hc0 : l0.length ≤ c0) (h : impl_turned.f k l0 = some r) :
  Calls Try.prog 104 #[.slice A0 l0.length c0] w fun e w' => ∃ v0_ : Value, e = .returned (v0_) ∧ Kd.S (Kd.slice 3 (Kd.int .i64)) 23 w' w.heap.size (fun _ => True) v0_ r ∧ Below w.heap.size w w' := by
 have HR0 := Aside0.mk hr0
 have HC0 := Aside0.mk hc0
 clear hr0 hc0
 have HB := Aside0.mk (Below.refl w.heap.size w)
 have H : (if 0 ≤ (l0.length : Int) then (if ((l0.length : Int) : Int).toNat ≤ 11728124029610 then (impl_turned.l0 k l0 (List.replicate ((l0.length : Int) : Int).toNat []) (l0.length : Int) 0) else (none)) else (none)) = some r := h
 clear h
 by_cases c2 : 0 ≤ (l0.length : Int)
 ·rw [if_pos c2] at H
  have c2b0 := eq_true c2
  have c2b1 : decide (0 ≤ (l0.length : Int)) = true := decide_eq_true c2
  clear c2
  by_cases c3 : ((l0.length : Int) : Int).toNat ≤ 11728124029610
  ·rw [if_pos c3] at H
   have c3b0 := eq_true c3
   have c3b1 : decide (((l0.length : Int) : Int).toNat ≤ 11728124029610) = true := decide_eq_true c3
   clear c3
   obtain ⟨y217, hy217⟩ : ∃ y_ : List (List Int), y_ = (List.replicate ((l0.length : Int) : Int).toNat []) := ⟨_, rfl⟩
   replace H : (impl_turned.l0 k l0 y217 (l0.length : Int) 0) = some r := by first | (rw [hy217]; with_reducible exact H) | (have H2_ := (Option.bind_some _ _).symm.trans H; rw [hy217]; with_reducible exact H2_) | (have H2_ := (Option.bind_some _ _).symm.trans H; with_reducible exact H2_) | with_reducible exact H | (rw [hy217]; exact H) | exact H
   have Ny217 := Aside0.mk hy217
   clear hy217
   have H' := Aside0.mk H
   clear H
   go_enter Try.func104, Try.ntmps104
   go_wp2_with (first | ((with_reducible refine gate_dst (N := 8) rfl ?_); refine Kd.S_make (Kd.slice 3 (Kd.int .i64)) _ 23 rfl (N := 8) rfl 22 _ _ rfl (l0.length : Int) rfl rfl Try.underlying22 (.slice none 0 0) 24 info23 rfl (by decide) (by omega) [] (ok := fun _ => True) (okp := fun _ => True) ⟨_, rfl, Kd.R_nil _ _ _ _ _⟩ (fun _ hk => hk) trivial (of_decide_eq_true (by first | (with_reducible assumption) | assumption)) (Nat.le_trans (Nat.mul_le_mul_right _ (of_decide_eq_true (by first | (with_reducible assumption) | assumption) : (l0.length : Int).toNat ≤ 11728124029610)) (by omega)) (Below.refl _ _) (Nat.le_refl _) ?_; intro v218 w4 ho5 hb hg_ hnew_; clear hg_ hnew_; (first | rw [← Ny217.out] at ho5 | (simp only [Int.reduceToNat] at ho5; rw [← Ny217.out] at ho5)); have n0_ := Aside0.mk (Kd.S_lower ho5 (below_size (by repeat (first | (with_reducible first | exact HB.out | apply below_alloc | apply pw_below_drewN | apply below_drew1) | exact HB.out)))); have n1_ := Aside0.mk (below_step (by repeat (first | (with_reducible first | exact HB.out | apply below_alloc | apply pw_below_drewN | apply below_drew1) | exact HB.out)) hb); clear HB; have HO219 := n0_; have HB := n1_; clear n0_ n1_; clear hb ho5))
   go_loopg [11] k (fun kq v11 w' => ∃ (x3_1 : List (List Int)) (x11_1 : Int), v11 = .int .i64 x11_1 ∧ Aside0 (impl_turned.l0 kq l0 x3_1 (l0.length : Int) x11_1 = some r) ∧ Aside0 (kq ≤ k) ∧ Aside0 (Kd.S (Kd.slice 3 (Kd.int .i64)) 23 w' w.heap.size (fun _ => True) v218 x3_1) ∧ Aside0 (Below w.heap.size w w'))
   case atStart => exact ⟨(y217), (0), (by first | rfl | (simp; done) | (simp [*]; done)), H', ⟨Nat.le_refl _⟩, ⟨by (with_reducible repeat (first | apply Kd.S_alloc | apply Kd.S_drewN | apply Kd.S_drew)); exact HO219.out⟩, ⟨by repeat (first | (with_reducible first | exact HB.out | apply below_alloc | apply pw_below_drewN | apply below_drew1) | exact HB.out)⟩⟩
   case round =>
    clear H'
    try clear c1
    try clear c2
    try clear c2b0
    try clear c2b1
    try clear p2
    try clear c3
    try clear c3b0
    try clear c3b1
    obtain ⟨x3_1, x11_1, rfl, HA, HK1, HO_3, HB⟩ := hrel
    cases gk with
    | zero => exact absurd HA.out (by simp [impl_turned.l0])
    | succ k1 =>
     have H := HA.out
     clear HA
     simp only [impl_turned.l0] at H
     by_cases c6 : x11_1 < (l0.length : Int)
     ·rw [if_pos c6] at H
      have c6b0 : decide (x11_1 < (l0.length : Int)) = true := decide_eq_true c6
      clear c6
      by_cases c7 : 0 ≤ (l0.length : Int)
      ·rw [if_pos c7] at H
       have c7b0 := eq_true c7
       have c7b1 : decide (0 ≤ (l0.length : Int)) = true := decide_eq_true c7
       clear c7
       by_cases c8 : ((l0.length : Int) : Int).toNat ≤ 35184372088832
       ·rw [if_pos c8] at H
        have c8b0 := eq_true c8
        have c8b1 : decide (((l0.length : Int) : Int).toNat ≤ 35184372088832) = true := decide_eq_true c8
        clear c8
        obtain ⟨y220, hy220⟩ : ∃ y_ : List Int, y_ = (List.replicate ((l0.length : Int) : Int).toNat 0) := ⟨_, rfl⟩
        replace H : (if 0 ≤ x11_1 then (if x11_1 < (x3_1.length : Int) then (impl_turned.l1 k1 l0 (x3_1.set (x11_1 : Int).toNat y220) x11_1 (l0.length : Int) x11_1 (l0.length : Int) 0) else (none)) else (none)) = some r := by first | (rw [hy220]; with_reducible exact H) | (have H2_ := (Option.bind_some _ _).symm.trans H; rw [hy220]; with_reducible exact H2_) | (have H2_ := (Option.bind_some _ _).symm.trans H; with_reducible exact H2_) | with_reducible exact H | (rw [hy220]; exact H) | exact H
        have Ny220 := Aside0.mk hy220
        clear hy220
        by_cases c9 : 0 ≤ x11_1
        ·rw [if_pos c9] at H
         have c9b0 : decide (0 ≤ x11_1) = true := decide_eq_true c9
         clear c9
         by_cases c10 : x11_1 < (x3_1.length : Int)
         ·rw [if_pos c10] at H
          have c10b0 : decide (x11_1 < (x3_1.length : Int)) = true := decide_eq_true c10
          clear c10
          obtain ⟨y223, hy223⟩ : ∃ y_ : List (List Int), y_ = (x3_1.set (x11_1 : Int).toNat y220) := ⟨_, rfl⟩
          replace H : (impl_turned.l1 k1 l0 y223 x11_1 (l0.length : Int) x11_1 (l0.length : Int) 0) = some r := by first | (rw [hy223]; with_reducible exact H) | (have H2_ := (Option.bind_some _ _).symm.trans H; rw [hy223]; with_reducible exact H2_) | (have H2_ := (Option.bind_some _ _).symm.trans H; with_reducible exact H2_) | with_reducible exact H | (rw [hy223]; exact H) | exact H
          have Ny223 := Aside0.mk hy223
          clear hy223
          have H' := Aside0.mk H
          clear H
          go_wp2_with (first | ((with_reducible refine gate_dst (N := 18) rfl ?_); refine Kd.R_make (Kd.int .i64) _ 3 rfl (N := 18) rfl 23 _ _ rfl (l0.length : Int) rfl rfl Try.underlying23 (.int .i64 0) 8 info3 rfl (by decide) (by omega) 0 (ok := fun _ => True) (okp := fun _ => True) rfl (fun _ hk => hk) trivial (of_decide_eq_true (by first | (with_reducible assumption) | assumption)) (Nat.le_trans (Nat.mul_le_mul_right _ (of_decide_eq_true (by first | (with_reducible assumption) | assumption) : (l0.length : Int).toNat ≤ 35184372088832)) (by omega)) (Below.refl _ _) (Nat.le_refl _) ?_; intro v221 w12 ho13 hb hg_ hnew_; clear hg_ hnew_; (first | rw [← Ny220.out] at ho13 | (simp only [Int.reduceToNat] at ho13; rw [← Ny220.out] at ho13)); have n0_ := Aside0.mk (Kd.S_elder' (by (with_reducible repeat (first | apply Kd.S_alloc | apply Kd.S_drewN | apply Kd.S_drew)); exact HO_3.out) (Kd.R_base ho13) hb); have n1_ := Aside0.mk (Kd.R_lower ho13 (below_size (by repeat (first | (with_reducible first | exact HB.out | apply below_alloc | apply pw_below_drewN | apply below_drew1) | exact HB.out)))); have n2_ := Aside0.mk (below_step (by repeat (first | (with_reducible first | exact HB.out | apply below_alloc | apply pw_below_drewN | apply below_drew1) | exact HB.out)) hb); clear HO_3; clear HB; have HO_3 := n0_; have HO222 := n1_; have HB := n2_; clear n0_ n1_ n2_; clear hb ho13; have p11 : 0 ≤ (x11_1 : Int) := of_decide_eq_true (by first | (with_reducible assumption) | assumption); have q11 : (x11_1 : Int) < ((x3_1.length : Int) : Int) := of_decide_eq_true (by first | (with_reducible assumption) | assumption); obtain ⟨go11, co11, eo11, gb11, gl11, cl11, HG11⟩ := Kd.S_form HO_3.out (by omega); (first | cases eo11 | (injection eo11 with ea_ en_ ec_; (first | subst ea_ | (injection ea_ with ea_; subst ea_)); subst ec_; clear en_)); have GB11 := Aside0.mk gb11; have GG11 := Aside0.mk HG11; clear gb11 gl11 HG11; obtain ⟨_, ce11, hcl11, hM11, hcc11, hfr11, _, _⟩ := Kd.S_elem HO_3.out [] (x11_1 : Int) p11 q11; obtain ⟨ve11_0, rfl, ge11_0⟩ := hM11; have hx11_0 := hcc11 0 _ rfl; have hf11_0 := hfr11 0; (try simp only [show ((Kd.slice 3 (Kd.int .i64))).sz = 1 from rfl, Nat.mul_one, Nat.add_zero] at hx11_0); (try simp only [show ((Kd.slice 3 (Kd.int .i64))).sz = 1 from rfl, Nat.mul_one, Nat.add_zero] at hf11_0); clear hcl11 hcc11 hfr11; (try clear hM11); replace p11 := eq_true p11; replace q11 := eq_true q11; have n_ := Aside0.mk (Kd.S_mono (ok' := (fun k_ => some k_ ≠ (v221 : Value).ownBlock)) HO_3.out (fun k_ hk => hk.2)); clear HO_3; have HO_3 := n_; clear n_; have HX14 := Aside0.mk (show Kd.S (Kd.slice 3 (Kd.int .i64)) 23 w12 w.heap.size (fun k_ => ((fun _ => True)) k_ ∧ ¬ ((fun k_ => some k_ = (v221 : Value).ownBlock)) k_) (.slice (some ⟨go11, 0, none⟩) x3_1.length co11) x3_1 from (by (with_reducible repeat (first | apply Kd.S_alloc | apply Kd.S_drewN | apply Kd.S_drew)); exact Kd.S_mono HO_3.out (fun k_ hk => ⟨trivial, fun e_ => hk e_⟩))); obtain ⟨oki14, ce14, hcl14, hM14, hcc14, hfr14, hoki14, hH14⟩ := Kd.S_elem HX14.out [] (x11_1 : Int) (of_decide_eq_true (by first | (with_reducible assumption) | assumption)) (by have h_ : (x11_1 : Int) < ((x3_1.length : Int) : Int) := of_decide_eq_true (by first | (with_reducible assumption) | assumption); first | exact h_ | (have e_ := (Kd.S_reads' HO_3.out).1; omega) | simpa using h_); obtain ⟨ve14_0, rfl, ge14_0⟩ := hM14; have HP14 := Kd.S_seg hH14 (of_decide_eq_true (by first | (with_reducible assumption) | assumption)) (by have h_ : (x11_1 : Int) < ((x3_1.length : Int) : Int) := of_decide_eq_true (by first | (with_reducible assumption) | assumption); first | exact h_ | (have e_ := (Kd.S_reads' HO_3.out).1; omega) | simpa using h_) (seg := [v221]) (j := 0) (show 1 ≤ 1 from by decide) (x' := y220) (Kd.M_row (Kd.R_mono (Kd.R_tight rfl (Kd.R_mono (ok' := fun k_ => ((fun _ => True)) k_ ∧ k_ ≠ go11) (Kd.R_apart' (HO222.out) (Kd.S_typed HO_3.out) (by decide)) (fun k_ hk => ⟨trivial, fun e_ => (hk.2) (by rw [e_]; rfl)⟩))) (fun _ h_ => Or.inr (h_)))) (fun _ hk => hk) (fun k_ hk_ => ((Kd.R_mono (ok' := fun k_ => ((fun _ => True)) k_ ∧ k_ ≠ go11) (Kd.R_apart' (HO222.out) (Kd.S_typed HO_3.out) (by decide)) (fun k_ hk => ⟨trivial, fun e_ => (hk.2) (by rw [e_]; rfl)⟩))).1 k_ hk_.symm); have hx14_0 := hcc14 0 _ rfl; (try simp only [show ((Kd.slice 3 (Kd.int .i64))).sz = 1 from rfl, Nat.mul_one, Nat.add_zero] at hx14_0); have hf14_0 := hfr14 0; (try simp only [show ((Kd.slice 3 (Kd.int .i64))).sz = 1 from rfl, Nat.mul_one, Nat.add_zero] at hf14_0); clear hcl14 hcc14 hfr14 hoki14 hH14; (try clear hM14); (try simp only [show ((Kd.slice 3 (Kd.int .i64))).sz = 1 from rfl, Nat.mul_one, Nat.add_zero] at HP14)) | ((with_reducible refine gate_store (t := 23) (p := 19) rfl ?_); refine store_event (t := 23) (p := 19) (v := ?vo_w15) (w1 := (w12.setCell ⟨go11, (x11_1 : Int).toNat, none⟩ (v221))) ?hg ?ho ?hn ?hr ?_; (case ho => rfl); (case hg => rfl); (case hn => rfl); (case hr => first | (go_simp; done) | (go_simp; rfl) | (obtain ⟨a_, c_, e_⟩ := Kd.R_slice (Aside0.out ‹Aside0 (Kd.R _ _ _ _ _ v221 _)›); rw [e_]; first | (go_simp; done) | (go_simp; rfl))); intro w15 hw; have hg : w12.grownBy w15 (some go11) := (by rw [hw]; exact HP14.2); have hp_ : Kd.S (Kd.slice 3 (Kd.int .i64)) 23 w15 w.heap.size (fun _ => True) (.slice (some ⟨go11, 0, none⟩) x3_1.length co11) y223 := (by rw [hw, Ny223.out]; exact HP14.1); clear HP14; have n0_ := Aside0.mk (hp_); have n1_ := Aside0.mk ((by rw [hw]; exact below_set (HB.out) GB11.out : Below w.heap.size w w15)); clear HO_3; clear HB; clear HO222; have HO_3 := n0_; have HB := n1_; clear n0_ n1_; clear hg hw hp_))
          go_loopg [22] k1 (fun kq v22 w' => ∃ (x3_2 : List (List Int)) (x22_2 : Int), v22 = .int .i64 x22_2 ∧ Aside0 (impl_turned.l1 kq l0 x3_2 x11_1 (l0.length : Int) x11_1 (l0.length : Int) x22_2 = some r) ∧ Aside0 (kq ≤ k1) ∧ Aside0 (Kd.S (Kd.slice 3 (Kd.int .i64)) 23 w' w.heap.size (fun _ => True) (.slice (some ⟨go11, 0, none⟩) x3_1.length co11) x3_2) ∧ Aside0 (Below w.heap.size w w'))
          case atStart => exact ⟨(y223), (0), (by first | rfl | (simp; done) | (simp [*]; done)), H', ⟨Nat.le_refl _⟩, ⟨by (with_reducible repeat (first | apply Kd.S_alloc | apply Kd.S_drewN | apply Kd.S_drew)); exact HO_3.out⟩, ⟨by repeat (first | (with_reducible first | exact HB.out | apply below_alloc | apply pw_below_drewN | apply below_drew1) | exact HB.out)⟩⟩
          case round =>
           clear H'
           try clear c1
           try clear p1
           try clear q1
           try clear hx1
           try clear hf1
           try clear c2
           try clear c2b0
           try clear c2b1
           try clear p2
           try clear c3
           try clear c3b0
           try clear c3b1
           try clear c6
           try clear c6b0
           try clear c7
           try clear c7b0
           try clear c7b1
           try clear c8
           try clear c8b0
           try clear c8b1
           try clear c9
           try clear c9b0
           try clear c10
           try clear c10b0
           try clear c11
           try clear p11
           try clear q11
           try clear hx11
           try clear hf11
           try clear c14
           try clear hx14
           try clear hf14
           try clear hx11_0
           try clear hx14_0
           try clear p11
           try clear p2
           try clear q11
           obtain ⟨x3_2, x22_2, rfl, HA, HK2, HO_3, HB⟩ := hrel
           have hl3_2 := (Kd.S_reads' HO_3.out).1
           rw [hl3_2] at HO_3
           (try simp only [hl3_2])
           cases gk with
           | zero => exact absurd HA.out (by simp [impl_turned.l1])
           | succ k2 =>
            have H := HA.out
            clear HA
            simp only [impl_turned.l1] at H
            by_cases c16 : x22_2 < (l0.length : Int)
            ·rw [if_pos c16] at H
             have c16b0 : decide (x22_2 < (l0.length : Int)) = true := decide_eq_true c16
             clear c16
             by_cases c17 : 0 ≤ x11_1
             ·rw [if_pos c17] at H
              have c17b0 : decide (0 ≤ x11_1) = true := decide_eq_true c17
              clear c17
              by_cases c18 : x11_1 < (x3_2.length : Int)
              ·rw [if_pos c18] at H
               have c18b0 : decide (x11_1 < (x3_2.length : Int)) = true := decide_eq_true c18
               clear c18
               by_cases c19 : 0 ≤ x22_2
               ·rw [if_pos c19] at H
                have c19b0 : decide (0 ≤ x22_2) = true := decide_eq_true c19
                clear c19
                by_cases c20 : x22_2 < (l0.length : Int)
                ·rw [if_pos c20] at H
                 have c20b0 : decide (x22_2 < (l0.length : Int)) = true := decide_eq_true c20
                 clear c20
                 by_cases c21 : x11_1 < ((rd_L1 l0 x22_2).length : Int)
                 ·rw [if_pos c21] at H
                  have c21b0 : decide (x11_1 < ((rd_L1 l0 x22_2).length : Int)) = true := decide_eq_true c21
                  clear c21
                  by_cases c22 : x22_2 < ((rd_L1 x3_2 x11_1).length : Int)
                  ·rw [if_pos c22] at H
                   have c22b0 : decide (x22_2 < ((rd_L1 x3_2 x11_1).length : Int)) = true := decide_eq_true c22
                   clear c22
                   obtain ⟨y227, hy227⟩ : ∃ y_ : List Int, y_ = ((rd_L1 x3_2 x11_1).set (x22_2 : Int).toNat (rd (rd_L1 l0 x22_2) x11_1)) := ⟨_, rfl⟩
                   replace H : (impl_turned.l1 k2 l0 (x3_2.set (x11_1 : Int).toNat y227) x11_1 (l0.length : Int) x11_1 (l0.length : Int) (wrap64 (x22_2 + 1))) = some r := by first | (rw [hy227]; with_reducible exact H) | (have H2_ := (Option.bind_some _ _).symm.trans H; rw [hy227]; with_reducible exact H2_) | (have H2_ := (Option.bind_some _ _).symm.trans H; with_reducible exact H2_) | with_reducible exact H | (rw [hy227]; exact H) | exact H
                   have Ny227 := Aside0.mk hy227
                   clear hy227
                   obtain ⟨y229, hy229⟩ : ∃ y_ : List (List Int), y_ = (x3_2.set (x11_1 : Int).toNat y227) := ⟨_, rfl⟩
                   replace H : (impl_turned.l1 k2 l0 y229 x11_1 (l0.length : Int) x11_1 (l0.length : Int) (wrap64 (x22_2 + 1))) = some r := by first | (rw [hy229]; with_reducible exact H) | (have H2_ := (Option.bind_some _ _).symm.trans H; rw [hy229]; with_reducible exact H2_) | (have H2_ := (Option.bind_some _ _).symm.trans H; with_reducible exact H2_) | with_reducible exact H | (rw [hy229]; exact H) | exact H
                   have Ny229 := Aside0.mk hy229
                   clear hy229
                   have H' := Aside0.mk H
                   clear H
                   try go_wp2
                   have n0_ := Aside0.mk (Kd.S_drew HO_3.out)
                   have n1_ := Aside0.mk (below_drew1 HB.out)
                   clear HO_3
                   clear HB
                   have HO_3 := n0_
                   have HB := n1_
                   clear n0_ n1_
                   have p224 : 0 ≤ (x11_1 : Int) := of_decide_eq_true (by first | (with_reducible assumption) | assumption)
                   have q224 : x11_1 < (x3_2.length : Int) := of_decide_eq_true (by first | (with_reducible assumption) | assumption)
                   obtain ⟨ad224, A224_0, c224_0, e224, hx224_0, hl224_0, hi224_0⟩ := at_L1 (Kd.S_reads' HO_3.out).2.2 x11_1 p224 q224
                   obtain rfl : (⟨go11, 0, none⟩ : Addr) = ad224 := (by injection e224)
                   obtain ⟨ce224, hce224, hMe224, hcc224⟩ := Kd.S_get HO_3.out [] x11_1 p224 (by first | exact q224 | exact of_decide_eq_true (by first | (with_reducible assumption) | assumption) | (have e_ := (Kd.S_reads' HO_3.out).1; omega))
                   obtain ⟨ve224_0, rfl, ge224_0⟩ := hMe224
                   have hv224_0 := hcc224 0 _ rfl
                   rw [Nat.add_zero, show ((Kd.slice 3 (Kd.int .i64))).sz = 1 from rfl, Nat.mul_one] at hv224_0
                   replace hv224_0 := Option.some.inj (hv224_0.symm.trans hx224_0)
                   rw [hv224_0] at ge224_0
                   have HL224_0 := Aside0.mk (show Kd.R (Kd.int .i64) 3 _ _ _ _ (rd_L1 x3_2 x11_1) from ge224_0)
                   clear hv224_0 ge224_0
                   have HX224_0 := Aside0.mk hx224_0
                   clear hcc224 hce224
                   (first | simp only [add_plain] at hx224_0 | simp only [add_at] at hx224_0 | simp only [Addr.add, Nat.zero_add] at hx224_0 | skip)
                   have HR224_0 := Aside0.mk hi224_0
                   have HC224_0 := Aside0.mk hl224_0
                   clear hi224_0 hl224_0
                   replace p224 := eq_true p224
                   replace q224 := eq_true q224
                   have p225 : 0 ≤ (x22_2 : Int) := of_decide_eq_true (by first | (with_reducible assumption) | assumption)
                   have q225 : x22_2 < (l0.length : Int) := of_decide_eq_true (by first | (with_reducible assumption) | assumption)
                   obtain ⟨ad225, A225_0, c225_0, e225, hx225_0, hl225_0, hi225_0⟩ := at_L1 HR0.out x22_2 p225 q225
                   have hw225_0 := hx225_0
                   cases e225
                   replace hx225_0 := (HB.out.cell (World.block_lt_of_cell? w _ hx225_0)).trans hx225_0
                   have HR225_0 := Aside0.mk hi225_0
                   have HC225_0 := Aside0.mk hl225_0
                   clear hi225_0 hl225_0
                   replace p225 := eq_true p225
                   replace q225 := eq_true q225
                   have p226 : 0 ≤ (x11_1 : Int) := of_decide_eq_true (by first | (with_reducible assumption) | assumption)
                   have q226 : x11_1 < ((rd_L1 l0 x22_2).length : Int) := of_decide_eq_true (by first | (with_reducible assumption) | assumption)
                   obtain ⟨ad226, e226, hx226_0⟩ := Kd.at_int HR225_0.out x11_1 p226 q226
                   have hw226_0 := hx226_0
                   cases e226
                   replace hx226_0 := (HB.out.cell (World.block_lt_of_cell? w _ hx226_0)).trans hx226_0
                   replace p226 := eq_true p226
                   replace q226 := eq_true q226
                   have p23 : 0 ≤ (x22_2 : Int) := of_decide_eq_true (by first | (with_reducible assumption) | assumption)
                   have q23 : (x22_2 : Int) < (((rd_L1 x3_2 x11_1).length : Int) : Int) := of_decide_eq_true (by first | (with_reducible assumption) | assumption)
                   obtain ⟨go23, co23, eo23, gb23, gl23, cl23, HG23⟩ := Kd.R_form HL224_0.out (by omega)
                   (first | cases eo23 | (injection eo23 with ea_ en_ ec_; (first | subst ea_ | (injection ea_ with ea_; subst ea_)); subst ec_; clear en_))
                   have GB23 := Aside0.mk gb23
                   have GG23 := Aside0.mk HG23
                   clear gb23 gl23 HG23
                   obtain ⟨hx23_0, hf23_0⟩ := Kd.R_celln 0 HL224_0.out (x22_2 : Int) p23 q23
                   replace p23 := eq_true p23
                   replace q23 := eq_true q23
                   have hq25 : (x11_1 : Int) < (x3_2.length : Int) := (by have h_ : (x11_1 : Int) < ((x3_2.length : Int) : Int) := of_decide_eq_true (by first | (with_reducible assumption) | assumption); first | exact h_ | (have e_ := (Kd.S_reads' HO_3.out).1; omega) | simpa only [List.length_set, List.length_set] using h_)
                   obtain ⟨oki25, ce25, hcl25, hM25, hcc25, hok25, hbk25⟩ := Kd.S_borrow HO_3.out [] (x11_1 : Int) (of_decide_eq_true (by first | (with_reducible assumption) | assumption)) hq25
                   obtain ⟨ve25_0, rfl, ge25_0⟩ := hM25
                   have hv25 := hcc25 0 _ rfl
                   rw [Nat.add_zero, show ((Kd.slice 3 (Kd.int .i64))).sz = 1 from rfl, Nat.mul_one] at hv25
                   replace hv25 := Option.some.inj (hv25.symm.trans HX224_0.out)
                   subst hv25
                   clear hcc25 hcl25
                   replace ge25_0 := (show Kd.R (Kd.int .i64) 3 _ _ _ _ (rd_L1 x3_2 x11_1) from ge25_0)
                   have HP25 := Kd.R_putg ge25_0 (x22_2 : Int) (rd (rd_L1 l0 x22_2) x11_1)
                   rw [← Ny227.out] at HP25
                   have HS25 := hbk25 HP25.2 (fun k_ e_ => by injection e_ with e_; subst e_; exact ge25_0.1 _ rfl) (x' := y227) (Kd.M_row HP25.1)
                   rw [← Ny229.out] at HS25
                   have HQ25 := Aside0.mk HS25
                   clear HP25 HS25 hbk25 hok25
                   refine start_ (n := 14) (S := fun w' => w'.cell? ⟨go11, (x11_1).toNat, none⟩ = some (.slice (some ⟨go23, 0, none⟩) (rd_L1 x3_2 x11_1).length c224_0) ∧ w'.cell? (ad225.add (x22_2).toNat) = some (.slice (some ad226) (rd_L1 l0 x22_2).length c225_0) ∧ w'.cell? (ad226.add (x11_1).toNat) = some (.int .i64 (rd (rd_L1 l0 x22_2) x11_1))) (ds := [13]) #[false, false, false, false, false, false, false, false, false, false, false, false, false, false] (by kernel_rfl) rfl rfl ⟨hx224_0, ((HB.out.cell (World.block_lt_of_cell? w _ hw225_0)).trans hw225_0), ((HB.out.cell (World.block_lt_of_cell? w _ hw226_0)).trans hw226_0)⟩ (fun hHeld => ?_); refine with_tabW impl_turned.tab9 impl_turned.bits9 (fun HT_ HW_ => ?_)
                   generalize wr.drew = w24 at HO_3 HB GG23 HL224_0 HQ25 HR224_0 HR225_0 HX224_0 hf23_0 hx224_0 hx225_0 hx226_0 hx23_0 hHeld ⊢
                   refine pure_ (i := 0) (N := some 25) (v := ?_) (a' := ?_) #[true, false, false, false, false, false, false, false, false, false, false, false, false, false] rfl rfl (any_of HT_.out (by kernel_rfl)) (fun _ _ _ h => h) (Or.inl ⟨by rfl, ?_⟩) ?_ ?_
                   rotate_left
                   ·intro w'
                    go_simp
                    with_reducible rfl
                   rotate_left
                   ·simp only [Act.put, List.setIfInBounds_toArray, List.set_cons_zero, List.set_cons_succ, i64_w, i32_w]
                    rfl
                   refine pure_ (i := 1) (N := some 26) (v := ?_) (a' := ?_) #[true, true, false, false, false, false, false, false, false, false, false, false, false, false] rfl rfl (any_of HT_.out (by kernel_rfl)) (fun _ _ _ h => h) (Or.inl ⟨by rfl, ?_⟩) ?_ ?_
                   rotate_left
                   ·intro w'
                    go_simp
                    with_reducible rfl
                   rotate_left
                   ·simp only [Act.put, List.setIfInBounds_toArray, List.set_cons_zero, List.set_cons_succ, i64_w, i32_w]
                    rfl
                   refine pure_ (i := 2) (N := some 27) (v := ?_) (a' := ?_) #[true, true, true, false, false, false, false, false, false, false, false, false, false, false] rfl rfl (any_of HT_.out (by kernel_rfl)) (fun _ _ _ h => h) (Or.inl ⟨by rfl, ?_⟩) ?_ ?_
                   rotate_left
                   ·intro w'
                    go_simp
                    with_reducible rfl
                   rotate_left
                   ·simp only [Act.put, List.setIfInBounds_toArray, List.set_cons_zero, List.set_cons_succ, i64_w, i32_w]
                    rfl
                   refine pure_ (i := 4) (N := some 29) (v := ?_) (a' := ?_) #[true, true, true, false, true, false, false, false, false, false, false, false, false, false] rfl rfl (any_of HT_.out (by kernel_rfl)) (fun _ _ _ h => h) (Or.inl ⟨by rfl, ?_⟩) ?_ ?_
                   rotate_left
                   ·intro w'
                    go_simp
                    with_reducible rfl
                   rotate_left
                   ·simp only [Act.put, List.setIfInBounds_toArray, List.set_cons_zero, List.set_cons_succ, i64_w, i32_w]
                    rfl
                   refine pure_ (i := 5) (N := some 30) (v := ?_) (a' := ?_) #[true, true, true, false, true, true, false, false, false, false, false, false, false, false] rfl rfl (any_of HT_.out (by kernel_rfl)) (fun _ _ _ h => h) (Or.inl ⟨by rfl, ?_⟩) ?_ ?_
                   rotate_left
                   ·intro w'
                    go_simp
                    with_reducible rfl
                   rotate_left
                   ·simp only [Act.put, List.setIfInBounds_toArray, List.set_cons_zero, List.set_cons_succ, i64_w, i32_w]
                    rfl
                   refine pure_ (i := 6) (N := some 31) (v := ?_) (a' := ?_) #[true, true, true, false, true, true, true, false, false, false, false, false, false, false] rfl rfl (any_of HT_.out (by kernel_rfl)) (fun _ _ _ h => h) (Or.inl ⟨by rfl, ?_⟩) ?_ ?_
                   rotate_left
                   ·intro w'
                    go_simp
                    with_reducible rfl
                   rotate_left
                   ·simp only [Act.put, List.setIfInBounds_toArray, List.set_cons_zero, List.set_cons_succ, i64_w, i32_w]
                    rfl
                   refine pure_ (i := 7) (N := some 32) (v := ?_) (a' := ?_) #[true, true, true, false, true, true, true, true, false, false, false, false, false, false] rfl rfl (any_of HT_.out (by kernel_rfl)) (fun _ _ _ h => h) (Or.inl ⟨by rfl, ?_⟩) ?_ ?_
                   rotate_left
                   ·intro w'
                    go_simp
                    with_reducible rfl
                   rotate_left
                   ·simp only [Act.put, List.setIfInBounds_toArray, List.set_cons_zero, List.set_cons_succ, i64_w, i32_w]
                    rfl
                   refine pure_ (i := 9) (N := some 34) (v := ?_) (a' := ?_) #[true, true, true, false, true, true, true, true, false, true, false, false, false, false] rfl rfl (any_of HT_.out (by kernel_rfl)) (fun _ _ _ h => h) (Or.inl ⟨by rfl, ?_⟩) ?_ ?_
                   rotate_left
                   ·intro w'
                    go_simp
                    with_reducible rfl
                   rotate_left
                   ·simp only [Act.put, List.setIfInBounds_toArray, List.set_cons_zero, List.set_cons_succ, i64_w, i32_w]
                    rfl
                   refine take_ (i := 3) (N := some 28) (v := ?_) (a' := ?_) #[true, true, true, true, true, true, true, true, false, true, false, false, false, false] rfl rfl (take_ofW HT_.out HW_.out (by kernel_rfl)) (fun _ _ _ h => h) (Or.inl ⟨by rfl, ?_⟩) hHeld ?_ ?_
                   rotate_left
                   ·rintro w' ⟨s0, s1, s2⟩
                    go_simp
                    with_reducible rfl
                   rotate_left
                   ·simp only [Act.put, List.setIfInBounds_toArray, List.set_cons_zero, List.set_cons_succ, i64_w, i32_w]
                    rfl
                   refine take_ (i := 8) (N := some 33) (v := ?_) (a' := ?_) #[true, true, true, true, true, true, true, true, true, true, false, false, false, false] rfl rfl (take_ofW HT_.out HW_.out (by kernel_rfl)) (fun _ _ _ h => h) (Or.inl ⟨by rfl, ?_⟩) hHeld ?_ ?_
                   rotate_left
                   ·rintro w' ⟨s0, s1, s2⟩
                    go_simp
                    with_reducible rfl
                   rotate_left
                   ·simp only [Act.put, List.setIfInBounds_toArray, List.set_cons_zero, List.set_cons_succ, i64_w, i32_w]
                    rfl
                   refine pure_ (i := 10) (N := some 35) (v := ?_) (a' := ?_) #[true, true, true, true, true, true, true, true, true, true, true, false, false, false] rfl rfl (any_of HT_.out (by kernel_rfl)) (fun _ _ _ h => h) (Or.inl ⟨by rfl, ?_⟩) ?_ ?_
                   rotate_left
                   ·intro w'
                    go_simp
                    with_reducible rfl
                   rotate_left
                   ·simp only [Act.put, List.setIfInBounds_toArray, List.set_cons_zero, List.set_cons_succ, i64_w, i32_w]
                    rfl
                   refine take_ (i := 11) (N := some 36) (v := ?_) (a' := ?_) #[true, true, true, true, true, true, true, true, true, true, true, true, false, false] rfl rfl (take_ofW HT_.out HW_.out (by kernel_rfl)) (fun _ _ _ h => h) (Or.inl ⟨by rfl, ?_⟩) hHeld ?_ ?_
                   rotate_left
                   ·rintro w' ⟨s0, s1, s2⟩
                    go_simp
                    with_reducible rfl
                   rotate_left
                   ·simp only [Act.put, List.setIfInBounds_toArray, List.set_cons_zero, List.set_cons_succ, i64_w, i32_w]
                    rfl
                   refine pure_ (i := 12) (N := some 37) (v := ?_) (a' := ?_) #[true, true, true, true, true, true, true, true, true, true, true, true, true, false] rfl rfl (any_of HT_.out (by kernel_rfl)) (fun _ _ _ h => h) (Or.inl ⟨by rfl, ?_⟩) ?_ ?_
                   rotate_left
                   ·intro w'
                    go_simp
                    with_reducible rfl
                   rotate_left
                   ·simp only [Act.put, List.setIfInBounds_toArray, List.set_cons_zero, List.set_cons_succ, i64_w, i32_w]
                    rfl
                   refine last_ (i := 13) (N := none) #[true, true, true, true, true, true, true, true, true, true, true, true, true, true] rfl rfl (one_of HT_.out (by kernel_rfl)) (by decide) (fun K hK => ?_)
                   refine skip_ (w1 := ?_) (by rfl) rfl ?_ ?_
                   rotate_left
                   ·go_simp
                    rfl
                   refine hK.out _ _ ?_
                   clear hK K
                   refine done_ (done_of HT_.out (by kernel_rfl)) ?_
                   try go_wp2
                   (try simp only [← hl3_2])
                   go_roundg k2
                   case measure => have := HK1.out; have := HK2.out; omega
                   case rel => exact ⟨(y229), (wrap64 (x22_2 + 1)), (by first | rfl | (simp; done) | (simp [*]; done)), H', ⟨by have := HK1.out; have := HK2.out; omega⟩, ⟨by (try simp only [hl3_2]); (with_reducible repeat (first | apply Kd.S_alloc | apply Kd.S_drewN | apply Kd.S_drew)); exact HQ25.out⟩, ⟨by repeat (first | (with_reducible first | exact HB.out | apply below_alloc | apply pw_below_drewN | apply below_drew1 | refine below_set ?_ GB23.out) | exact HB.out)⟩⟩
                  ·rw [if_neg c22] at H
                   exact absurd H (by simp)
                 ·rw [if_neg c21] at H
                  exact absurd H (by simp)
                ·rw [if_neg c20] at H
                 exact absurd H (by simp)
               ·rw [if_neg c19] at H
                exact absurd H (by simp)
              ·rw [if_neg c18] at H
               exact absurd H (by simp)
             ·rw [if_neg c17] at H
              exact absurd H (by simp)
            ·rw [if_neg c16] at H
             have c16b0 : decide (x22_2 < (l0.length : Int)) = false := decide_eq_false c16
             clear c16
             have H' := Aside0.mk H
             clear H
             go_wp2
             (try simp only [← hl3_2])
             go_roundg k2
             case measure => have := HK1.out; have := HK2.out; omega
             case rel => exact ⟨(x3_2), (wrap64 (x11_1 + 1)), (by first | rfl | (simp; done) | (simp [*]; done)), H', ⟨by have := HK1.out; have := HK2.out; omega⟩, ⟨by (try simp only [hl3_2]); (with_reducible repeat (first | apply Kd.S_alloc | apply Kd.S_drewN | apply Kd.S_drew)); exact HO_3.out⟩, ⟨by repeat (first | (with_reducible first | exact HB.out | apply below_alloc | apply pw_below_drewN | apply below_drew1) | exact HB.out)⟩⟩
         ·rw [if_neg c10] at H
          exact absurd H (by simp)
        ·rw [if_neg c9] at H
         exact absurd H (by simp)
       ·rw [if_neg c8] at H
        exact absurd H (by simp)
      ·rw [if_neg c7] at H
       exact absurd H (by simp)
     ·rw [if_neg c6] at H
      have c6b0 : decide (x11_1 < (l0.length : Int)) = false := decide_eq_false c6
      clear c6
      obtain rfl := Option.some.inj H
      go_wp2
      go_ret
      exact ⟨_, by first | rfl | (simp [errW_none, errW_some] <;> rfl) | (simp [*, errW_none, errW_some] <;> rfl), by (with_reducible repeat (first | apply Kd.S_alloc | apply Kd.S_drewN | apply Kd.S_drew)); exact HO_3.out, by repeat (first | (with_reducible first | exact HB.out | apply below_alloc | apply pw_below_drewN | apply below_drew1) | exact HB.out)⟩
  ·rw [if_neg c3] at H
   exact absurd H (by simp)
 ·rw [if_neg c2] at H
  exact absurd H (by simp)
end Go.Proofs.Ythideghgdmokkaa.Print
end
section
namespace Go.Proofs.Ythideghgdmokkaa.Print
open Go.RowKit Go.Proofs.YthideghgdmokkaaW.PrintWords Go.Proofs.YthideghgdmokkaaW.PrintLast Go.Proofs.YthideghgdmokkaaW.PrintMore
attribute [local go_sem] max2_int min2_int max_two min_two max_three min_three max_four min_four   -- for this text's walks alone
set_option linter.unusedVariables false
set_option linter.unusedSimpArgs false
mutual
def impl_LatticeOk.l0 : Nat → List (List Int) → List (List Int) → Int → Int → Option (Bool)
 | 0, _, _, _, _ => none
 | k + 1, x0, x3, x12, x13 => if x13 < x12 then (impl_LatticeOk.l1 k x0 x3 x13 x12 x13 (x0.length : Int) 0) else (some true)
def impl_LatticeOk.l1 : Nat → List (List Int) → List (List Int) → Int → Int → Int → Int → Int → Option (Bool)
 | 0, _, _, _, _, _, _, _ => none
 | k + 1, x0, x3, x4, x12, x13, x17, x18 => if x18 < x17 then ((impl_meet.f k x0 x4 x18).bind fun t256 => (if t256 < 0 then (some false) else ((impl_meet.f k x3 x4 x18).bind fun t257 => (if t257 < 0 then (some false) else (impl_LatticeOk.l1 k x0 x3 x4 x12 x13 x17 (wrap64 (x18 + 1))))))) else (impl_LatticeOk.l0 k x0 x3 x12 (wrap64 (x13 + 1)))
end
def impl_LatticeOk.f (k : Nat) (l0 : List (List Int)) : Option (Bool) := (impl_OrderOk.f k l0).bind fun t252 => (if t252 = true then ((impl_turned.f k l0).bind fun t253 => (impl_LatticeOk.l0 k l0 t253 (l0.length : Int) 0)) else (some false))
set_option maxHeartbeats 8000000 in
set_option maxRecDepth 100000 in
theorem impl_LatticeOk.calls (k : Nat) (A0 : Option Addr) (c0 : Nat) (l0 : List (List Int)) (r : Bool) (w : World) (hr0 : Kd.C (Kd.slice 3 (Kd.int .i64)) w A0 l0.length l0) (hc0 : l0.length ≤ c0) (h : impl_LatticeOk.f k l0 = some r) :
  Calls Try.prog 103 #[.slice A0 l0.length c0] w fun e w' => e = .returned (.bool r) ∧ Below w.heap.size w w' := by
 have HR0 := Aside0.mk hr0
 have HC0 := Aside0.mk hc0
 clear hr0 hc0
 have HB := Aside0.mk (Below.refl w.heap.size w)
 have H : ((impl_OrderOk.f k l0).bind fun t252 => (if t252 = true then ((impl_turned.f k l0).bind fun t253 => (impl_LatticeOk.l0 k l0 t253 (l0.length : Int) 0)) else (some false))) = some r := h
 clear h
 replace H := Option.bind_eq_some_iff.mp H
 obtain ⟨t252, A20, H⟩ := H
 replace H : (if t252 = true then ((impl_turned.f k l0).bind fun t253 => (impl_LatticeOk.l0 k l0 t253 (l0.length : Int) 0)) else (some false)) = some r := H
 have A2 := Aside0.mk A20
 clear A20
 by_cases c3 : t252 = true
 ·subst c3
  have H1 : ((impl_turned.f k l0).bind fun t253 => (impl_LatticeOk.l0 k l0 t253 (l0.length : Int) 0)) = some r := by rw [if_pos rfl] at H; exact H
  clear H
  have H := H1
  clear H1
  replace H := Option.bind_eq_some_iff.mp H
  obtain ⟨t253, A40, H⟩ := H
  replace H : (impl_LatticeOk.l0 k l0 t253 (l0.length : Int) 0) = some r := H
  have A4 := Aside0.mk A40
  clear A40
  have H' := Aside0.mk H
  clear H
  go_enter Try.func103, Try.ntmps103
  go_wp2_with (first | ((with_reducible refine gate_callee (f := 134) rfl ?_); refine goesL_ (some 7) rfl rfl Try.func134 (by kernel_rfl) rfl #[.slice A0 l0.length c0] rfl (by (try simp only [List.map_toArray, List.map_cons, List.map_nil]); first | done | rfl | (simp only [List.length_drop, List.length_take]; rfl)) ?_; (with_reducible refine (impl_OrderOk.calls k _ _ l0 true _ ?side1 ?side2 A2.out).mono ?_); (case side1 => repeat (first | exact HR0.out | (with_reducible refine Kd.C_alloc ?_ _) | (with_reducible refine Kd.C_drewN ?_ _) | (with_reducible refine Kd.C_drew ?_))); (case side2 => exact HC0.out); rintro e w' ⟨rfl, ⟨nd, rfl⟩⟩; refine ⟨_, rfl, ?_⟩) | ((with_reducible refine gate_callee (f := 104) rfl ?_); refine goesL_ (some 10) rfl rfl Try.func104 (by kernel_rfl) rfl #[.slice A0 l0.length c0] rfl (by (try simp only [List.map_toArray, List.map_cons, List.map_nil]); first | done | rfl | (simp only [List.length_drop, List.length_take]; rfl)) ?_; (with_reducible refine (impl_turned.calls k _ _ l0 t253 _ ?side1 ?side2 A4.out).mono ?_); (case side1 => repeat (first | exact HR0.out | (with_reducible refine Kd.C_alloc ?_ _) | (with_reducible refine Kd.C_drewN ?_ _) | (with_reducible refine Kd.C_drew ?_))); (case side2 => exact HC0.out); rintro e w5 ⟨v254, rfl, ho0, hb⟩; refine ⟨_, rfl, ?_⟩; have n0_ := Aside0.mk (Kd.S_lower ho0 (below_size (by repeat (first | (with_reducible first | exact HB.out | apply below_alloc | apply pw_below_drewN | apply below_drew1) | exact HB.out)))); have n1_ := Aside0.mk (below_step (by repeat (first | (with_reducible first | exact HB.out | apply below_alloc | apply pw_below_drewN | apply below_drew1) | exact HB.out)) hb); clear HB; have HO255 := n0_; have HB := n1_; clear n0_ n1_; (try clear hb); (try clear hb2); (try clear hk); (try clear hi); (try clear ho0)))
  go_loopg [13] k (fun kq v13 w' => ∃ (x13_1 : Int), v13 = .int .i64 x13_1 ∧ Aside0 (impl_LatticeOk.l0 kq l0 t253 (l0.length : Int) x13_1 = some r) ∧ Aside0 (kq ≤ k) ∧ Aside0 (Kd.S (Kd.slice 3 (Kd.int .i64)) 23 w' w.heap.size (fun _ => True) v254 t253) ∧ Aside0 (Below w.heap.size w w'))
  case atStart => exact ⟨(0), (by first | rfl | (simp; done) | (simp [*]; done)), H', ⟨Nat.le_refl _⟩, ⟨by (with_reducible repeat (first | apply Kd.S_alloc | apply Kd.S_drewN | apply Kd.S_drew)); exact HO255.out⟩, ⟨by repeat (first | (with_reducible first | exact HB.out | apply below_alloc | apply pw_below_drewN | apply below_drew1) | exact HB.out)⟩⟩
  case round =>
   clear H'
   try clear c1
   try clear p2
   try clear c3
   obtain ⟨x13_1, rfl, HA, HK1, HO_3, HB⟩ := hrel
   cases gk with
   | zero => exact absurd HA.out (by simp [impl_LatticeOk.l0])
   | succ k1 =>
    have H := HA.out
    clear HA
    simp only [impl_LatticeOk.l0] at H
    by_cases c6 : x13_1 < (l0.length : Int)
    ·rw [if_pos c6] at H
     have c6b0 : decide (x13_1 < (l0.length : Int)) = true := decide_eq_true c6
     clear c6
     have H' := Aside0.mk H
     clear H
     go_wp2
     go_loopg [18] k1 (fun kq v18 w' => ∃ (x18_2 : Int), v18 = .int .i64 x18_2 ∧ Aside0 (impl_LatticeOk.l1 kq l0 t253 x13_1 (l0.length : Int) x13_1 (l0.length : Int) x18_2 = some r) ∧ Aside0 (kq ≤ k1) ∧ Aside0 (Kd.S (Kd.slice 3 (Kd.int .i64)) 23 w' w.heap.size (fun _ => True) v254 t253) ∧ Aside0 (Below w.heap.size w w'))
     case atStart => exact ⟨(0), (by first | rfl | (simp; done) | (simp [*]; done)), H', ⟨Nat.le_refl _⟩, ⟨by (with_reducible repeat (first | apply Kd.S_alloc | apply Kd.S_drewN | apply Kd.S_drew)); exact HO_3.out⟩, ⟨by repeat (first | (with_reducible first | exact HB.out | apply below_alloc | apply pw_below_drewN | apply below_drew1) | exact HB.out)⟩⟩
     case round =>
      clear H'
      try clear c1
      try clear p2
      try clear c3
      try clear c6
      try clear c6b0
      try clear p2
      obtain ⟨x18_2, rfl, HA, HK2, HO_3, HB⟩ := hrel
      cases gk with
      | zero => exact absurd HA.out (by simp [impl_LatticeOk.l1])
      | succ k2 =>
       have H := HA.out
       clear HA
       simp only [impl_LatticeOk.l1] at H
       by_cases c7 : x18_2 < (l0.length : Int)
       ·rw [if_pos c7] at H
        have c7b0 : decide (x18_2 < (l0.length : Int)) = true := decide_eq_true c7
        clear c7
        replace H := Option.bind_eq_some_iff.mp H
        obtain ⟨t256, A80, H⟩ := H
        replace H : (if t256 < 0 then (some false) else ((impl_meet.f k2 t253 x13_1 x18_2).bind fun t257 => (if t257 < 0 then (some false) else (impl_LatticeOk.l1 k2 l0 t253 x13_1 (l0.length : Int) x13_1 (l0.length : Int) (wrap64 (x18_2 + 1)))))) = some r := H
        have A8 := Aside0.mk A80
        clear A80
        by_cases c9 : t256 < 0
        ·rw [if_pos c9] at H
         have c9b0 : decide (t256 < 0) = true := decide_eq_true c9
         clear c9
         obtain rfl := Option.some.inj H
         go_wp2_with (first | ((with_reducible refine gate_callee (f := 105) rfl ?_); refine goesL_ (some 24) rfl rfl Try.func105 (by kernel_rfl) rfl #[.slice A0 l0.length c0, .int .i64 x13_1, .int .i64 x18_2] rfl (by (try simp only [List.map_toArray, List.map_cons, List.map_nil]); first | done | rfl | (simp only [List.length_drop, List.length_take]; rfl)) ?_; (with_reducible refine (impl_meet.calls k2 _ _ l0 x13_1 x18_2 t256 _ ?side1 ?side2 A8.out).mono ?_); (case side1 => repeat (first | exact (Kd.C_below HR0.out HB.out) | (with_reducible refine Kd.C_alloc ?_ _) | (with_reducible refine Kd.C_drewN ?_ _) | (with_reducible refine Kd.C_drew ?_))); (case side2 => exact HC0.out); rintro e w' ⟨rfl, ⟨nd, rfl⟩⟩; refine ⟨_, rfl, ?_⟩))
         go_ret
         exact ⟨by first | rfl | (simp [errW_none, errW_some] <;> rfl) | (simp [*, errW_none, errW_some] <;> rfl), by repeat (first | (with_reducible first | exact HB.out | apply below_alloc | apply pw_below_drewN | apply below_drew1) | exact HB.out)⟩
        ·rw [if_neg c9] at H
         have c9b0 : decide (t256 < 0) = false := decide_eq_false c9
         clear c9
         replace H := Option.bind_eq_some_iff.mp H
         obtain ⟨t257, A100, H⟩ := H
         replace H : (if t257 < 0 then (some false) else (impl_LatticeOk.l1 k2 l0 t253 x13_1 (l0.length : Int) x13_1 (l0.length : Int) (wrap64 (x18_2 + 1)))) = some r := H
         have A10 := Aside0.mk A100
         clear A100
         by_cases c11 : t257 < 0
         ·rw [if_pos c11] at H
          have c11b0 : decide (t257 < 0) = true := decide_eq_true c11
          clear c11
          obtain rfl := Option.some.inj H
          go_wp2_with (first | ((with_reducible refine gate_callee (f := 105) rfl ?_); refine goesL_ (some 24) rfl rfl Try.func105 (by kernel_rfl) rfl #[.slice A0 l0.length c0, .int .i64 x13_1, .int .i64 x18_2] rfl (by (try simp only [List.map_toArray, List.map_cons, List.map_nil]); first | done | rfl | (simp only [List.length_drop, List.length_take]; rfl)) ?_; (with_reducible refine (impl_meet.calls k2 _ _ l0 x13_1 x18_2 t256 _ ?side1 ?side2 A8.out).mono ?_); (case side1 => repeat (first | exact (Kd.C_below HR0.out HB.out) | (with_reducible refine Kd.C_alloc ?_ _) | (with_reducible refine Kd.C_drewN ?_ _) | (with_reducible refine Kd.C_drew ?_))); (case side2 => exact HC0.out); rintro e w' ⟨rfl, ⟨nd, rfl⟩⟩; refine ⟨_, rfl, ?_⟩; obtain ⟨Ao12, co12, eo12⟩ := Kd.S_slice HO_3.out; subst eo12) | (go_at_call 105; (with_reducible refine (impl_meet.calls k2 _ _ t253 x13_1 x18_2 t257 _ ?side1 ?side2 A10.out).mono ?_); (case side1 => repeat (first | exact (Kd.S_reads' HO_3.out).2.2 | (with_reducible refine Kd.C_alloc ?_ _) | (with_reducible refine Kd.C_drewN ?_ _) | (with_reducible refine Kd.C_drew ?_))); (case side2 => exact (Kd.S_reads' HO_3.out).2.1); rintro e w' ⟨rfl, ⟨nd, rfl⟩⟩))
          go_ret
          exact ⟨by first | rfl | (simp [errW_none, errW_some] <;> rfl) | (simp [*, errW_none, errW_some] <;> rfl), by repeat (first | (with_reducible first | exact HB.out | apply below_alloc | apply pw_below_drewN | apply below_drew1) | exact HB.out)⟩
         ·rw [if_neg c11] at H
          have c11b0 : decide (t257 < 0) = false := decide_eq_false c11
          clear c11
          have H' := Aside0.mk H
          clear H
          go_wp2_with (first | ((with_reducible refine gate_callee (f := 105) rfl ?_); refine goesL_ (some 24) rfl rfl Try.func105 (by kernel_rfl) rfl #[.slice A0 l0.length c0, .int .i64 x13_1, .int .i64 x18_2] rfl (by (try simp only [List.map_toArray, List.map_cons, List.map_nil]); first | done | rfl | (simp only [List.length_drop, List.length_take]; rfl)) ?_; (with_reducible refine (impl_meet.calls k2 _ _ l0 x13_1 x18_2 t256 _ ?side1 ?side2 A8.out).mono ?_); (case side1 => repeat (first | exact (Kd.C_below HR0.out HB.out) | (with_reducible refine Kd.C_alloc ?_ _) | (with_reducible refine Kd.C_drewN ?_ _) | (with_reducible refine Kd.C_drew ?_))); (case side2 => exact HC0.out); rintro e w' ⟨rfl, ⟨nd, rfl⟩⟩; refine ⟨_, rfl, ?_⟩; obtain ⟨Ao13, co13, eo13⟩ := Kd.S_slice HO_3.out; subst eo13) | (go_at_call 105; (with_reducible refine (impl_meet.calls k2 _ _ t253 x13_1 x18_2 t257 _ ?side1 ?side2 A10.out).mono ?_); (case side1 => repeat (first | exact (Kd.S_reads' HO_3.out).2.2 | (with_reducible refine Kd.C_alloc ?_ _) | (with_reducible refine Kd.C_drewN ?_ _) | (with_reducible refine Kd.C_drew ?_))); (case side2 => exact (Kd.S_reads' HO_3.out).2.1); rintro e w' ⟨rfl, ⟨nd, rfl⟩⟩))
          go_roundg k2
          case measure => have := HK1.out; have := HK2.out; omega
          case rel => exact ⟨(wrap64 (x18_2 + 1)), (by first | rfl | (simp; done) | (simp [*]; done)), H', ⟨by have := HK1.out; have := HK2.out; omega⟩, ⟨by (with_reducible repeat (first | apply Kd.S_alloc | apply Kd.S_drewN | apply Kd.S_drew)); exact HO_3.out⟩, ⟨by repeat (first | (with_reducible first | exact HB.out | apply below_alloc | apply pw_below_drewN | apply below_drew1) | exact HB.out)⟩⟩
       ·rw [if_neg c7] at H
        have c7b0 : decide (x18_2 < (l0.length : Int)) = false := decide_eq_false c7
        clear c7
        have H' := Aside0.mk H
        clear H
        go_wp2
        go_roundg k2
        case measure => have := HK1.out; have := HK2.out; omega
        case rel => exact ⟨(wrap64 (x13_1 + 1)), (by first | rfl | (simp; done) | (simp [*]; done)), H', ⟨by have := HK1.out; have := HK2.out; omega⟩, ⟨by (with_reducible repeat (first | apply Kd.S_alloc | apply Kd.S_drewN | apply Kd.S_drew)); exact HO_3.out⟩, ⟨by repeat (first | (with_reducible first | exact HB.out | apply below_alloc | apply pw_below_drewN | apply below_drew1) | exact HB.out)⟩⟩
    ·rw [if_neg c6] at H
     have c6b0 : decide (x13_1 < (l0.length : Int)) = false := decide_eq_false c6
     clear c6
     obtain rfl := Option.some.inj H
     go_wp2
     go_ret
     exact ⟨by first | rfl | (simp [errW_none, errW_some] <;> rfl) | (simp [*, errW_none, errW_some] <;> rfl), by repeat (first | (with_reducible first | exact HB.out | apply below_alloc | apply pw_below_drewN | apply below_drew1) | exact HB.out)⟩
 ·replace c3 := Bool.eq_false_iff.mpr c3
  subst c3
  have H1 : (some false) = some r := by rw [if_neg (show ¬ (false = true) by decide)] at H; exact H
  clear H
  have H := H1
  clear H1
  obtain rfl := Option.some.inj H
  go_enter Try.func103, Try.ntmps103
  go_wp2_with (first | ((with_reducible refine gate_callee (f := 134) rfl ?_); refine goesL_ (some 7) rfl rfl Try.func134 (by kernel_rfl) rfl #[.slice A0 l0.length c0] rfl (by (try simp only [List.map_toArray, List.map_cons, List.map_nil]); first | done | rfl | (simp only [List.length_drop, List.length_take]; rfl)) ?_; (with_reducible refine (impl_OrderOk.calls k _ _ l0 false _ ?side1 ?side2 A2.out).mono ?_); (case side1 => repeat (first | exact HR0.out | (with_reducible refine Kd.C_alloc ?_ _) | (with_reducible refine Kd.C_drewN ?_ _) | (with_reducible refine Kd.C_drew ?_))); (case side2 => exact HC0.out); rintro e w' ⟨rfl, ⟨nd, rfl⟩⟩; refine ⟨_, rfl, ?_⟩))
  go_ret
  exact ⟨by first | rfl | (simp [errW_none, errW_some] <;> rfl) | (simp [*, errW_none, errW_some] <;> rfl), by repeat (first | (with_reducible first | exact HB.out | apply below_alloc | apply pw_below_drewN | apply below_drew1) | exact HB.out)⟩
end Go.Proofs.Ythideghgdmokkaa.Print
end
section
namespace Go.Proofs.Ythideghgdmokkaa.Print
open Go.RowKit Go.Proofs.YthideghgdmokkaaW.PrintWords Go.Proofs.YthideghgdmokkaaW.PrintLast Go.Proofs.YthideghgdmokkaaW.PrintMore
attribute [local go_sem] max2_int min2_int max_two min_two max_three min_three max_four min_four   -- for this text's walks alone
set_option linter.unusedVariables false
set_option linter.unusedSimpArgs false
mutual
def impl_LeastOf.l0 : Nat → List (List Int) → Int → Int → Option (Int × Bool)
 | 0, _, _, _ => none
 | k + 1, x12, x13, x14 => if x14 < x13 then (if 0 ≤ x14 then (if x14 < (x12.length : Int) then (impl_LeastOf.l1 k x14 true x12 x13 x14 (rd_L1 x12 x14) ((rd_L1 x12 x14).length : Int) 0) else (none)) else (none)) else (some ((-1), false))
def impl_LeastOf.l1 : Nat → Int → Bool → List (List Int) → Int → Int → List Int → Int → Int → Option (Int × Bool)
 | 0, _, _, _, _, _, _, _, _ => none
 | k + 1, x4, x6, x12, x13, x14, x19, x20, x21 => if x21 < x20 then (if 0 ≤ x21 then (if x21 < (x19.length : Int) then (if x6 = true then (impl_LeastOf.l1 k x4 ((rd x19 x21) == 1) x12 x13 x14 x19 x20 (wrap64 (x21 + 1))) else (impl_LeastOf.l1 k x4 false x12 x13 x14 x19 x20 (wrap64 (x21 + 1)))) else (none)) else (none)) else (if x6 = true then (some (x4, true)) else (impl_LeastOf.l0 k x12 x13 (wrap64 (x14 + 1))))
end
def impl_LeastOf.f (k : Nat) (l0 : List (List Int)) : Option (Int × Bool) := (impl_OrderOk.f k l0).bind fun t258 => (if t258 = true then (impl_LeastOf.l0 k l0 (l0.length : Int) 0) else (some ((-1), false)))
set_option maxHeartbeats 8000000 in
set_option maxRecDepth 100000 in
theorem impl_LeastOf.calls (k : Nat) (A0 : Option Addr) (c0 : Nat) (l0 : List (List Int)) (r1 : Int) (r2 : Bool) (w : World) (hr0 : Kd.C (Kd.slice 3 (Kd.int .i64)) w A0 l0.length l0) (hc0 : l0.length ≤ c0) (h : impl_LeastOf.f k l0 = some (r1, r2)) :
  Calls Try.prog 106 #[.slice A0 l0.length c0] w fun e w' => e = .returned (.tuple #[.int .i64 r1, .bool r2]) ∧ Drawn0 w w' := by
 have HR0 := Aside0.mk hr0
 have HC0 := Aside0.mk hc0
 clear hr0 hc0
 have H : ((impl_OrderOk.f k l0).bind fun t258 => (if t258 = true then (impl_LeastOf.l0 k l0 (l0.length : Int) 0) else (some ((-1), false)))) = some (r1, r2) := h
 clear h
 replace H := Option.bind_eq_some_iff.mp H
 obtain ⟨t258, A20, H⟩ := H
 replace H : (if t258 = true then (impl_LeastOf.l0 k l0 (l0.length : Int) 0) else (some ((-1), false))) = some (r1, r2) := H
 have A2 := Aside0.mk A20
 clear A20
 by_cases c3 : t258 = true
 ·subst c3
  have H1 : (impl_LeastOf.l0 k l0 (l0.length : Int) 0) = some (r1, r2) := by rw [if_pos rfl] at H; exact H
  clear H
  have H := H1
  clear H1
  have H' := Aside0.mk H
  clear H
  go_enter Try.func106, Try.ntmps106
  go_wp2_with (first | ((with_reducible refine gate_callee (f := 134) rfl ?_); refine goesL_ (some 10) rfl rfl Try.func134 (by kernel_rfl) rfl #[.slice A0 l0.length c0] rfl (by (try simp only [List.map_toArray, List.map_cons, List.map_nil]); first | done | rfl | (simp only [List.length_drop, List.length_take]; rfl)) ?_; (with_reducible refine (impl_OrderOk.calls k _ _ l0 true _ ?side1 ?side2 A2.out).mono ?_); (case side1 => repeat (first | exact HR0.out | (with_reducible refine Kd.C_alloc ?_ _) | (with_reducible refine Kd.C_drewN ?_ _) | (with_reducible refine Kd.C_drew ?_))); (case side2 => exact HC0.out); rintro e w' ⟨rfl, ⟨nd, rfl⟩⟩; refine ⟨_, rfl, ?_⟩))
  go_loopg [14] k (fun kq v14 w' => ∃ (x14_1 : Int), v14 = .int .i64 x14_1 ∧ Aside0 (impl_LeastOf.l0 kq l0 (l0.length : Int) x14_1 = some (r1, r2)) ∧ Aside0 (kq ≤ k) ∧ Drawn0 w w')
  case atStart => exact ⟨(0), (by first | rfl | (simp; done) | (simp [*]; done)), H', ⟨Nat.le_refl _⟩, by repeat (first | exact Drawn0.refl _ | apply Drawn0.step)⟩
  case round =>
   clear H'
   try clear c1
   try clear p2
   try clear c3
   obtain ⟨x14_1, rfl, HA, HK1, ⟨m1, rfl⟩⟩ := hrel
   cases gk with
   | zero => exact absurd HA.out (by simp [impl_LeastOf.l0])
   | succ k1 =>
    have H := HA.out
    clear HA
    simp only [impl_LeastOf.l0] at H
    by_cases c4 : x14_1 < (l0.length : Int)
    ·rw [if_pos c4] at H
     have c4b0 : decide (x14_1 < (l0.length : Int)) = true := decide_eq_true c4
     clear c4
     by_cases c5 : 0 ≤ x14_1
     ·rw [if_pos c5] at H
      have c5b0 : decide (0 ≤ x14_1) = true := decide_eq_true c5
      clear c5
      by_cases c6 : x14_1 < (l0.length : Int)
      ·rw [if_pos c6] at H
       have c6b0 : decide (x14_1 < (l0.length : Int)) = true := decide_eq_true c6
       clear c6
       have H' := Aside0.mk H
       clear H
       have p259 : 0 ≤ (x14_1 : Int) := of_decide_eq_true (by first | (with_reducible assumption) | assumption)
       have q259 : x14_1 < (l0.length : Int) := of_decide_eq_true (by first | (with_reducible assumption) | assumption)
       obtain ⟨ad259, A259_0, c259_0, e259, hx259_0, hl259_0, hi259_0⟩ := at_L1 HR0.out x14_1 p259 q259
       cases e259
       have HR259_0 := Aside0.mk hi259_0
       have HC259_0 := Aside0.mk hl259_0
       clear hi259_0 hl259_0
       replace p259 := eq_true p259
       replace q259 := eq_true q259
       go_wp2
       go_loopg [6, 21] k1 (fun kq v6 v21 w' => ∃ (x6_2 : Bool) (x21_2 : Int), v6 = .bool x6_2 ∧ v21 = .int .i64 x21_2 ∧ Aside0 (impl_LeastOf.l1 kq x14_1 x6_2 l0 (l0.length : Int) x14_1 (rd_L1 l0 x14_1) ((rd_L1 l0 x14_1).length : Int) x21_2 = some (r1, r2)) ∧ Aside0 (kq ≤ k1) ∧ Drawn0 w w')
       case atStart => exact ⟨(true), (0), (by first | rfl | (simp; done) | (simp [*]; done)), (by first | rfl | (simp; done) | (simp [*]; done)), H', ⟨Nat.le_refl _⟩, by repeat (first | exact Drawn0.refl _ | apply Drawn0.step)⟩
       case round =>
        clear H'
        try clear c1
        try clear c2
        try clear p2
        try clear q2
        try clear hx2
        try clear c3
        try clear c4
        try clear c4b0
        try clear c5
        try clear c5b0
        try clear c6
        try clear c6b0
        try clear hx259_0
        try clear p2
        try clear p259
        try clear q259
        obtain ⟨x6_2, x21_2, rfl, rfl, HA, HK2, ⟨m2, rfl⟩⟩ := hrel
        cases gk with
        | zero => exact absurd HA.out (by simp [impl_LeastOf.l1])
        | succ k2 =>
         have H := HA.out
         clear HA
         simp only [impl_LeastOf.l1] at H
         by_cases c7 : x21_2 < ((rd_L1 l0 x14_1).length : Int)
         ·rw [if_pos c7] at H
          have c7b0 : decide (x21_2 < ((rd_L1 l0 x14_1).length : Int)) = true := decide_eq_true c7
          clear c7
          by_cases c8 : 0 ≤ x21_2
          ·rw [if_pos c8] at H
           have c8b0 : decide (0 ≤ x21_2) = true := decide_eq_true c8
           clear c8
           by_cases c9 : x21_2 < ((rd_L1 l0 x14_1).length : Int)
           ·rw [if_pos c9] at H
            have c9b0 : decide (x21_2 < ((rd_L1 l0 x14_1).length : Int)) = true := decide_eq_true c9
            clear c9
            by_cases c10 : x6_2 = true
            ·subst c10
             have H1 : (impl_LeastOf.l1 k2 x14_1 ((rd (rd_L1 l0 x14_1) x21_2) == 1) l0 (l0.length : Int) x14_1 (rd_L1 l0 x14_1) ((rd_L1 l0 x14_1).length : Int) (wrap64 (x21_2 + 1))) = some (r1, r2) := by rw [if_pos rfl] at H; exact H
             clear H
             have H := H1
             clear H1
             have H' := Aside0.mk H
             clear H
             have p260 : 0 ≤ (x21_2 : Int) := of_decide_eq_true (by first | (with_reducible assumption) | assumption)
             have q260 : x21_2 < ((rd_L1 l0 x14_1).length : Int) := of_decide_eq_true (by first | (with_reducible assumption) | assumption)
             obtain ⟨ad260, e260, hx260_0⟩ := Kd.at_int HR259_0.out x21_2 p260 q260
             cases e260
             replace p260 := eq_true p260
             replace q260 := eq_true q260
             go_wp2
             go_roundg k2
             case measure => have := HK1.out; have := HK2.out; omega
             case rel => exact ⟨(((rd (rd_L1 l0 x14_1) x21_2) == 1)), (wrap64 (x21_2 + 1)), (by first | rfl | (simp; done) | (simp [*]; done)), (by first | rfl | (simp; done) | (simp [*]; done)), H', ⟨by have := HK1.out; have := HK2.out; omega⟩, by repeat (first | exact Drawn0.refl _ | apply Drawn0.step)⟩
            ·replace c10 := Bool.eq_false_iff.mpr c10
             subst c10
             have H1 : (impl_LeastOf.l1 k2 x14_1 false l0 (l0.length : Int) x14_1 (rd_L1 l0 x14_1) ((rd_L1 l0 x14_1).length : Int) (wrap64 (x21_2 + 1))) = some (r1, r2) := by rw [if_neg (show ¬ (false = true) by decide)] at H; exact H
             clear H
             have H := H1
             clear H1
             have H' := Aside0.mk H
             clear H
             have p260 : 0 ≤ (x21_2 : Int) := of_decide_eq_true (by first | (with_reducible assumption) | assumption)
             have q260 : x21_2 < ((rd_L1 l0 x14_1).length : Int) := of_decide_eq_true (by first | (with_reducible assumption) | assumption)
             obtain ⟨ad260, e260, hx260_0⟩ := Kd.at_int HR259_0.out x21_2 p260 q260
             cases e260
             replace p260 := eq_true p260
             replace q260 := eq_true q260
             go_wp2
             go_roundg k2
             case measure => have := HK1.out; have := HK2.out; omega
             case rel => exact ⟨(false), (wrap64 (x21_2 + 1)), (by first | rfl | (simp; done) | (simp [*]; done)), (by first | rfl | (simp; done) | (simp [*]; done)), H', ⟨by have := HK1.out; have := HK2.out; omega⟩, by repeat (first | exact Drawn0.refl _ | apply Drawn0.step)⟩
           ·rw [if_neg c9] at H
            exact absurd H (by simp)
          ·rw [if_neg c8] at H
           exact absurd H (by simp)
         ·rw [if_neg c7] at H
          have c7b0 : decide (x21_2 < ((rd_L1 l0 x14_1).length : Int)) = false := decide_eq_false c7
          clear c7
          by_cases c11 : x6_2 = true
          ·subst c11
           have H1 : (some (x14_1, true)) = some (r1, r2) := by rw [if_pos rfl] at H; exact H
           clear H
           have H := H1
           clear H1
           simp only [Option.some.injEq, Prod.mk.injEq] at H
           obtain ⟨rfl, rfl⟩ := H
           go_wp2
           go_ret2
           exact ⟨by first | rfl | (simp; done) | (simp [*]; done), by repeat (first | exact Drawn0.refl _ | apply Drawn0.step)⟩
          ·replace c11 := Bool.eq_false_iff.mpr c11
           subst c11
           have H1 : (impl_LeastOf.l0 k2 l0 (l0.length : Int) (wrap64 (x14_1 + 1))) = some (r1, r2) := by rw [if_neg (show ¬ (false = true) by decide)] at H; exact H
           clear H
           have H := H1
           clear H1
           have H' := Aside0.mk H
           clear H
           go_wp2
           go_roundg k2
           case measure => have := HK1.out; have := HK2.out; omega
           case rel => exact ⟨(wrap64 (x14_1 + 1)), (by first | rfl | (simp; done) | (simp [*]; done)), H', ⟨by have := HK1.out; have := HK2.out; omega⟩, by repeat (first | exact Drawn0.refl _ | apply Drawn0.step)⟩
      ·rw [if_neg c6] at H
       exact absurd H (by simp)
     ·rw [if_neg c5] at H
      exact absurd H (by simp)
    ·rw [if_neg c4] at H
     have c4b0 : decide (x14_1 < (l0.length : Int)) = false := decide_eq_false c4
     clear c4
     simp only [Option.some.injEq, Prod.mk.injEq] at H
     obtain ⟨rfl, rfl⟩ := H
     go_wp2
     go_ret2
     exact ⟨by first | rfl | (simp; done) | (simp [*]; done), by repeat (first | exact Drawn0.refl _ | apply Drawn0.step)⟩
 ·replace c3 := Bool.eq_false_iff.mpr c3
  subst c3
  have H1 : (some ((-1), false)) = some (r1, r2) := by rw [if_neg (show ¬ (false = true) by decide)] at H; exact H
  clear H
  have H := H1
  clear H1
  simp only [Option.some.injEq, Prod.mk.injEq] at H
  obtain ⟨rfl, rfl⟩ := H
  go_enter Try.func106, Try.ntmps106
  go_wp2_with (first | ((with_reducible refine gate_callee (f := 134) rfl ?_); refine goesL_ (some 10) rfl rfl Try.func134 (by kernel_rfl) rfl #[.slice A0 l0.length c0] rfl (by (try simp only [List.map_toArray, List.map_cons, List.map_nil]); first | done | rfl | (simp only [List.length_drop, List.length_take]; rfl)) ?_; (with_reducible refine (impl_OrderOk.calls k _ _ l0 false _ ?side1 ?side2 A2.out).mono ?_); (case side1 => repeat (first | exact HR0.out | (with_reducible refine Kd.C_alloc ?_ _) | (with_reducible refine Kd.C_drewN ?_ _) | (with_reducible refine Kd.C_drew ?_))); (case side2 => exact HC0.out); rintro e w' ⟨rfl, ⟨nd, rfl⟩⟩; refine ⟨_, rfl, ?_⟩))
  go_ret2
  exact ⟨by first | rfl | (simp; done) | (simp [*]; done), by repeat (first | exact Drawn0.refl _ | apply Drawn0.step)⟩
end Go.Proofs.Ythideghgdmokkaa.Print
end
section
namespace Go.Proofs.Ythideghgdmokkaa.Print
open Go.RowKit Go.Proofs.YthideghgdmokkaaW.PrintWords Go.Proofs.YthideghgdmokkaaW.PrintLast Go.Proofs.YthideghgdmokkaaW.PrintMore
set_option linter.unusedVariables false
set_option linter.unusedSimpArgs false
open Oml
section
variable {U : List (List Int)} (O : Order U)
include O
theorem meet_l1 {a b c : Nat} (ha : a < U.length) (hb : b < U.length) (hc : c < U.length) (R : Int) :
    ∀ i, i ≤ U.length → ∀ fl : Bool, ((fl && allFrom U.length (fun d => !(leB U d a && leB U d b) || leB U d c) i) = false → Ev (fun k => impl_meet.l0 k U a b U.length ((c + 1 : Nat) : Int)) R) →
      Ev (fun k => impl_meet.l1 k U a b c fl U.length c U.length i) (if (fl && allFrom U.length (fun d => !(leB U d a && leB U d b) || leB U d c) i) = true then (c : Int) else R) := by
  have hs := O.small
  refine fun i hi => ?_
  obtain ⟨d, hd⟩ : ∃ d, U.length = i + d := ⟨U.length - i, by omega⟩
  induction d generalizing i with
  | zero =>
    intro fl hR
    rw [allFrom_ge (by omega), Bool.and_true] at hR ⊢
    cases fl with
    | true =>
      refine Ev.step (f := fun _ => some (c : Int)) (fun k => ?_) (Ev.now _)
      simp only [impl_meet.l1]
      rw [if_neg (by omega)]; rfl
    | false =>
      refine Ev.step (f := fun k => impl_meet.l0 k U a b U.length ((c + 1 : Nat) : Int)) (fun k => ?_) (by simpa using hR rfl)
      simp only [impl_meet.l1]
      rw [if_neg (by omega), if_neg (by simp), wrap_nat (by omega)]
  | succ d ih =>
    intro fl hR
    rw [allFrom_lt (by omega)] at hR ⊢
    have hrow : ((U.getD i []).length : Int) = U.length := by rw [O.row i (by omega)]
    have va := O.val (a := i) (b := a) (by omega) ha
    have vb := O.val (a := i) (b := b) (by omega) hb
    have vc := O.val (a := i) (b := c) (by omega) hc
    refine Ev.step (f := fun k => impl_meet.l1 k U a b c (fl && (!(leB U i a && leB U i b) || leB U i c)) U.length c U.length ((i + 1 : Nat) : Int)) (fun k => ?_) ?_
    · simp only [impl_meet.l1, rdL_nat, rd_nat, rd_row, hrow, va, vb, vc, wrap_nat (show i < 4611686018427387904 by omega)]
      rw [if_pos (by omega)]
      cases fl
      · rfl
      · rw [if_pos rfl, if_pos (by omega), if_pos (by omega), if_pos (by omega), if_pos (by omega)]
        cases leB U i a
        · rfl
        · rw [if_neg (by simp), if_pos (by omega), if_pos (by omega)]
          cases leB U i b
          · rfl
          · rw [if_neg (by simp), if_pos (by omega), if_pos (by omega)]
            cases leB U i c <;> rfl
    · refine Ev.eq (ih (i + 1) (by omega) (by omega) (fl && (!(leB U i a && leB U i b) || leB U i c)) ?_) ?_
      · intro h; exact hR (by rw [← Bool.and_assoc]; exact h)
      · rw [Bool.and_assoc]
theorem impl_meet.ev {a b : Nat} (ha : a < U.length) (hb : b < U.length) : Ev (fun k => impl_meet.f k U a b) (mI U a b) := by
  have hs := O.small
  have key : ∀ i, i ≤ U.length → Ev (fun k => impl_meet.l0 k U a b U.length (i : Int)) (optI (fstFrom U.length (meetP U a b) i)) := by
    refine Ev.down U.length ?_ fun i hi ih => ?_
    · rw [fstFrom_ge (Nat.le_refl _)]
      refine Ev.step (f := fun _ => some (-1)) (fun k => ?_) (Ev.now _)
      simp only [impl_meet.l0]
      rw [if_neg (by omega)]
    · have hrow : ((U.getD i []).length : Int) = U.length := by rw [O.row i hi]
      have va := O.val (a := i) (b := a) hi ha
      have vb := O.val (a := i) (b := b) hi hb
      rw [fstFrom_lt hi]
      refine Ev.step (f := fun k => impl_meet.j1 k U a b i U.length i (!(leB U i a && leB U i b))) (fun k => ?_) ?_
      · simp only [impl_meet.l0, rdL_nat, rd_nat, rd_row, hrow, va, vb]
        rw [if_pos (by omega), if_pos (by omega), if_pos (by omega), if_pos (by omega), if_pos (by omega)]
        cases leB U i a
        · rfl
        · rw [if_neg (by simp), if_pos (by omega), if_pos (by omega)]
          cases leB U i b <;> rfl
      · cases hab : leB U i a && leB U i b with
        | false =>
          refine Ev.step (f := fun k => impl_meet.l0 k U a b U.length ((i + 1 : Nat) : Int)) (fun k => ?_) (Ev.eq ih ?_)
          · simp only [impl_meet.j1, Bool.not_false, if_true]
            rw [wrap_nat (by omega)]
          · have : meetP U a b i = false := by unfold meetP; rw [← Bool.and_assoc, hab]; rfl
            rw [this]; rfl
        | true =>
          refine Ev.step (f := fun k => impl_meet.l1 k U a b i true U.length i U.length ((0 : Nat) : Int)) (fun k => ?_) (Ev.eq (meet_l1 O ha hb hi _ 0 (by omega) true (fun _ => ih)) ?_)
          · simp only [impl_meet.j1, Bool.not_true]; rfl
          · have : meetP U a b i = allN U.length (fun d => !(leB U d a && leB U d b) || leB U d i) := by unfold meetP; rw [← Bool.and_assoc, hab]; rfl
            rw [this, Bool.true_and, allFrom_zero]
            split <;> rfl
  have := key 0 (by omega)
  rw [fstFrom_zero] at this
  exact this
end
end Go.Proofs.Ythideghgdmokkaa.Print
end
section
namespace Go.Proofs.Ythideghgdmokkaa.Print
open Go.RowKit Go.Proofs.YthideghgdmokkaaW.PrintWords Go.Proofs.YthideghgdmokkaaW.PrintLast Go.Proofs.YthideghgdmokkaaW.PrintMore
attribute [local go_sem] max2_int min2_int max_two min_two max_three min_three max_four min_four   -- for this text's walks alone
set_option linter.unusedVariables false
set_option linter.unusedSimpArgs false
def impl_isAnswer.f (l0 : List (List Int)) (a1 : Int) : Option (Bool) := if a1 ≥ 0 then (some (decide (a1 < (l0.length : Int)))) else (some false)
set_option maxHeartbeats 8000000 in
set_option maxRecDepth 100000 in
theorem impl_isAnswer.calls (A0 : Option Addr) (c0 : Nat) (l0 : List (List Int)) (a1 : Int) (r : Bool) (w : World) (hr0 : Kd.C (Kd.slice 3 (Kd.int .i64)) w A0 l0.length l0) (hc0 : l0.length ≤ c0) (h : impl_isAnswer.f l0 a1 = some r) :
  Calls Try.prog 107 #[.slice A0 l0.length c0, .int .i64 a1] w fun e w' => e = .returned (.bool r) ∧ Drawn0 w w' := by
 have HR0 := Aside0.mk hr0
 have HC0 := Aside0.mk hc0
 clear hr0 hc0
 have H : (if a1 ≥ 0 then (some (decide (a1 < (l0.length : Int)))) else (some false)) = some r := h
 clear h
 by_cases c3 : a1 ≥ 0
 ·rw [if_pos c3] at H
  have c3b0 : decide (0 ≤ a1) = true := decide_eq_true c3
  clear c3
  obtain rfl := Option.some.inj H
  go_enter Try.func107, Try.ntmps107
  go_wp2
  go_ret
  exact ⟨by first | rfl | (simp; done) | (simp [*]; done), by repeat (first | exact Drawn0.refl _ | apply Drawn0.step)⟩
 ·rw [if_neg c3] at H
  have c3b0 : decide (0 ≤ a1) = false := decide_eq_false c3
  clear c3
  obtain rfl := Option.some.inj H
  go_enter Try.func107, Try.ntmps107
  go_wp2
  go_ret
  exact ⟨by first | rfl | (simp; done) | (simp [*]; done), by repeat (first | exact Drawn0.refl _ | apply Drawn0.step)⟩
end Go.Proofs.Ythideghgdmokkaa.Print
end
section
namespace Go.Proofs.Ythideghgdmokkaa.Print
open Go.RowKit Go.Proofs.YthideghgdmokkaaW.PrintWords Go.Proofs.YthideghgdmokkaaW.PrintLast Go.Proofs.YthideghgdmokkaaW.PrintMore
set_option linter.unusedVariables false
set_option linter.unusedSimpArgs false
open Oml
structure ToldFacts (k : Nat) (U : List (List Int)) : Prop where
  lat : impl_LatticeOk.f k U = some (latticeB U)
  turn : latticeB U = true → impl_turned.f k U = some (turnL U)
  meet : latticeB U = true → ∀ a b : Nat, a < U.length → b < U.length → impl_meet.f k U a b = some (mI U a b)
  join : latticeB U = true → ∀ a b : Nat, a < U.length → b < U.length → impl_meet.f k (turnL U) a b = some (jI U a b)
  least : latticeB U = true → impl_LeastOf.f k U = some (optI (leastO U), (leastO U).isSome)
set_option maxHeartbeats 1000000 in
set_option maxRecDepth 100000 in
theorem told_flat (k : Nat) (A0 : Option Addr) (c0 : Nat) (U : List (List Int)) (A1 : Option Addr) (c1 : Nat) (N : List Int) (w : World)
    (hr0 : Kd.C (Kd.slice 3 (Kd.int .i64)) w A0 U.length U) (hc0 : U.length ≤ c0) (hr1 : Kd.C (Kd.int .i64) w A1 N.length N) (hc1 : N.length ≤ c1) (hLat : impl_LatticeOk.f k U = some false) :
    Calls Try.prog 57 #[.agg #[.slice A0 U.length c0, .slice A1 N.length c1]] w fun e w' => e = .returned (.pointer none) ∧ Below w.heap.size w w' := by
  have hu30 := Try.underlying28
  have HR0 := Aside0.mk hr0
  have HLat := Aside0.mk hLat
  clear hr0 hLat hr1
  go_enter Try.func57, Try.ntmps57
  go_wp2_with (first | ((with_reducible refine gate_dst (N := 1) rfl ?_); refine box_event ?hg (N := 1) ?hd (cs := #[.slice A0 U.length c0, .slice A1 N.length c1]) (t := 28) ?hr ?_; (case hd => rfl); (case hg => rfl); (case hr => first | (go_simp; done) | (go_simp; rfl)); intro gb hg_gb w1 hbox_gb hb; have HB := Aside0.mk hb; have hx0 : w1.cell? ⟨gb, 0, none⟩ = some (.slice A0 U.length c0) := (blk_cell hbox_gb 0).trans rfl; have hx1 : w1.cell? ⟨gb, 1, none⟩ = some (.slice A1 N.length c1) := (blk_cell hbox_gb 1).trans rfl; have HX := Aside0.mk hbox_gb; clear hbox_gb hb hg_gb) | (go_at_call 103; (with_reducible refine (impl_LatticeOk.calls k _ _ U false _ ?s1 ?s2 HLat.out).mono ?_); (case s1 => exact Kd.C_below HR0.out HB.out); (case s2 => assumption); rintro e w2 ⟨rfl, hb⟩; have hbox := blk_below HX.out hb; have hy0 : w2.cell? ⟨gb, 0, none⟩ = some (.slice A0 U.length c0) := (blk_cell hbox 0).trans rfl; have hy1 : w2.cell? ⟨gb, 1, none⟩ = some (.slice A1 N.length c1) := (blk_cell hbox 1).trans rfl; have HB2 := Aside0.mk (below_step HB.out hb); have HX2 := Aside0.mk hbox; clear hbox hb hx0 hx1 HX HB))
  go_ret
  exact ⟨rfl, HB2.out⟩
set_option maxHeartbeats 1000000 in
set_option maxRecDepth 100000 in
theorem told_long (k : Nat) (A0 : Option Addr) (c0 : Nat) (U : List (List Int)) (A1 : Option Addr) (c1 : Nat) (N : List Int) (w : World)
    (hr0 : Kd.C (Kd.slice 3 (Kd.int .i64)) w A0 U.length U) (hc0 : U.length ≤ c0) (hr1 : Kd.C (Kd.int .i64) w A1 N.length N) (hc1 : N.length ≤ c1) (hLat : impl_LatticeOk.f k U = some true) (hl : N.length ≠ U.length) :
    Calls Try.prog 57 #[.agg #[.slice A0 U.length c0, .slice A1 N.length c1]] w fun e w' => e = .returned (.pointer none) ∧ Below w.heap.size w w' := by
  have hu30 := Try.underlying28
  have HR0 := Aside0.mk hr0
  have HLat := Aside0.mk hLat
  have hne : ((N.length : Int) != (U.length : Int)) = true := by rw [bne_iff_ne]; omega
  clear hr0 hLat hr1 hl
  go_enter Try.func57, Try.ntmps57
  go_wp2_with (first | ((with_reducible refine gate_dst (N := 1) rfl ?_); refine box_event ?hg (N := 1) ?hd (cs := #[.slice A0 U.length c0, .slice A1 N.length c1]) (t := 28) ?hr ?_; (case hd => rfl); (case hg => rfl); (case hr => first | (go_simp; done) | (go_simp; rfl)); intro gb hg_gb w1 hbox_gb hb; have HB := Aside0.mk hb; have hx0 : w1.cell? ⟨gb, 0, none⟩ = some (.slice A0 U.length c0) := (blk_cell hbox_gb 0).trans rfl; have hx1 : w1.cell? ⟨gb, 1, none⟩ = some (.slice A1 N.length c1) := (blk_cell hbox_gb 1).trans rfl; have HX := Aside0.mk hbox_gb; clear hbox_gb hb hg_gb) | (go_at_call 103; (with_reducible refine (impl_LatticeOk.calls k _ _ U true _ ?s1 ?s2 HLat.out).mono ?_); (case s1 => exact Kd.C_below HR0.out HB.out); (case s2 => assumption); rintro e w2 ⟨rfl, hb⟩; have hbox := blk_below HX.out hb; have hy0 : w2.cell? ⟨gb, 0, none⟩ = some (.slice A0 U.length c0) := (blk_cell hbox 0).trans rfl; have hy1 : w2.cell? ⟨gb, 1, none⟩ = some (.slice A1 N.length c1) := (blk_cell hbox 1).trans rfl; have HB2 := Aside0.mk (below_step HB.out hb); have HX2 := Aside0.mk hbox; clear hbox hb hx0 hx1 HX HB))
  go_ret
  exact ⟨rfl, HB2.out⟩
def impl_told.T15 : Bool × List (List Nat × List Nat) := (true, [([], []), ([], []), ([], []), ([2], [2]), ([3], [3]), ([4], [4]), ([], []), ([6], [6]), ([5, 7], [5, 7]), ([], []), ([9], [9]), ([10], [10]), ([11], [11]), ([], []), ([13], [13]), ([12, 14, 8], [12, 14]), ([0, 0, 2, 3, 4, 5, 6, 7, 8, 12, 15], [0]), ([16, 0, 2, 3, 4, 5, 6, 7, 8, 12, 15], [16]), ([17, 8, 15, 0, 2, 3, 4, 5, 6, 7, 8, 12, 15], [8, 17]), ([1, 0, 1, 2, 3, 4, 5, 6, 7, 8, 9, 10, 11, 12, 13, 14, 15, 16, 17, 18], [1]), ([19, 0, 1, 2, 3, 4, 5, 6, 7, 8, 9, 10, 11, 12, 13, 14, 15, 16, 17, 18], [19]), ([20, 15, 18, 0, 1, 2, 3, 4, 5, 6, 7, 8, 9, 10, 11, 12, 13, 14, 15, 16, 17, 18], [15, 20])])
def impl_told.B15 : List Nat := [0, 0, 0, 4, 12, 28, 0, 64, 252, 0, 512, 1536, 3584, 0, 8192, 32764, 65533, 131069, 262141, 524287, 1048575, 2097151]
theorem impl_told.tab15 : rtab .any (opsOf Try.f57 15) = impl_told.T15 := by kernel_rfl
theorem impl_told.bits15 : waitsOk impl_told.T15.2 impl_told.B15 = true := by kernel_rfl
def impl_told.T34 : Bool × List (List Nat × List Nat) := (true, [([], []), ([], []), ([1], [1]), ([], []), ([3], [3]), ([4], [4]), ([5], [5]), ([2, 6], [2, 6]), ([7], [7]), ([0, 0, 1, 2, 3, 4, 5, 6, 7, 8], [0]), ([9, 0, 1, 2, 3, 4, 5, 6, 7, 8], [9]), ([10, 8, 0, 1, 2, 3, 4, 5, 6, 7, 8], [8, 10])])
def impl_told.B34 : List Nat := [0, 0, 2, 0, 8, 24, 56, 126, 254, 511, 1023, 2047]
theorem impl_told.tab34 : rtab .any (opsOf Try.f57 34) = impl_told.T34 := by kernel_rfl
theorem impl_told.bits34 : waitsOk impl_told.T34.2 impl_told.B34 = true := by kernel_rfl
theorem optI_inj {a b : Option Nat} (h : optI a = optI b) : a = b := by
  cases a <;> cases b <;> simp [optI] at h ⊢ <;> omega
def Ok3 (U : List (List Int)) (N : List Int) (i : Nat) : Prop := 0 ≤ at1 N i ∧ at1 N i < U.length ∧ at1 N (at1 N i).toNat = i ∧ meetO U i (at1 N i).toNat = leastO U
def Ok5 (U : List (List Int)) (N : List Int) (i j : Nat) : Prop := leB U i j = true → leB U (at1 N j).toNat (at1 N i).toNat = true
theorem logicB_no3 {U : List (List Int)} {N : List Int} {a : Nat} (ha : a < U.length) (h : ¬ Ok3 U N a) : logicB U N = false := by
  rw [Bool.eq_false_iff]
  intro hl
  have L := logicB_iff.1 hl
  exact h ⟨(L.ran a ha).1, (L.ran a ha).2, L.inv a ha, L.comp a ha⟩
theorem logicB_no5 {U : List (List Int)} {N : List Int} {a b : Nat} (ha : a < U.length) (hb : b < U.length) (h : ¬ Ok5 U N a b) : logicB U N = false := by
  rw [Bool.eq_false_iff]
  intro hl
  have L := logicB_iff.1 hl
  exact h (L.turn a b ha hb)
theorem logicB_yes {U : List (List Int)} {N : List Int} (h1 : latticeB U = true) (h2 : N.length = U.length) (h3 : ∀ i, i < U.length → Ok3 U N i) (h5 : ∀ i, i < U.length → ∀ j, j < U.length → Ok5 U N i j) : logicB U N = true := by
  have O := latticeB_order h1
  unfold latticeB at h1
  simp only [Bool.and_eq_true, allN_iff] at h1
  exact logicB_iff.2 { toOrder := O, meets := fun a b ha hb => (h1.2 a ha b hb).1, joins := fun a b ha hb => (h1.2 a ha b hb).2, len := h2, ran := fun a ha => ⟨(h3 a ha).1, (h3 a ha).2.1⟩, inv := fun a ha => (h3 a ha).2.2.1, comp := fun a ha => (h3 a ha).2.2.2, turn := fun a b ha hb => h5 a ha b hb }
set_option maxHeartbeats 16000000 in
set_option maxRecDepth 100000 in
theorem told_walk (k : Nat) (A0 : Option Addr) (c0 : Nat) (U : List (List Int)) (A1 : Option Addr) (c1 : Nat) (N : List Int) (w : World)
    (hr0 : Kd.C (Kd.slice 3 (Kd.int .i64)) w A0 U.length U) (hc0 : U.length ≤ c0) (hr1 : Kd.C (Kd.int .i64) w A1 N.length N) (hc1 : N.length ≤ c1) (hF : ToldFacts k U) (hl : N.length = U.length) (hlat : latticeB U = true) :
    Calls Try.prog 57 #[.agg #[.slice A0 U.length c0, .slice A1 N.length c1]] w (ToldPost U N w) := by
  have hu30 := Try.underlying28
  have hu70 := Try.underlying81
  have HR0 := Aside0.mk hr0
  have HR1 := Aside0.mk hr1
  have HL := Aside0.mk hl
  have HLat := Aside0.mk (hlat ▸ hF.lat)
  have HTurn := Aside0.mk (hF.turn hlat)
  have HF := Aside0.mk hF
  have HLB := Aside0.mk hlat
  have HSM := Aside0.mk (latticeB_order hlat).small
  have hne : ((N.length : Int) != (U.length : Int)) = false := by rw [hl]; simp
  clear hr0 hr1 hl hF hlat
  go_enter Try.func57, Try.ntmps57
  go_wp2_with (first | ((with_reducible refine gate_dst (N := 1) rfl ?_); refine box_event ?hg (N := 1) ?hd (cs := #[.slice A0 U.length c0, .slice A1 N.length c1]) (t := 28) ?hr ?_; (case hd => rfl); (case hg => rfl); (case hr => first | (go_simp; done) | (go_simp; rfl)); intro gb hg_gb w1 hbox_gb hb; have HB := Aside0.mk hb; have hx0 : w1.cell? ⟨gb, 0, none⟩ = some (.slice A0 U.length c0) := (blk_cell hbox_gb 0).trans rfl; have hx1 : w1.cell? ⟨gb, 1, none⟩ = some (.slice A1 N.length c1) := (blk_cell hbox_gb 1).trans rfl; have HX := Aside0.mk hbox_gb; clear hbox_gb hb hg_gb) | (go_at_call 103; (with_reducible refine (impl_LatticeOk.calls k _ _ U true _ ?s1 ?s2 HLat.out).mono ?_); (case s1 => exact Kd.C_below HR0.out HB.out); (case s2 => assumption); rintro e w2 ⟨rfl, hb⟩; have hbox := blk_below HX.out hb; have hy0 : w2.cell? ⟨gb, 0, none⟩ = some (.slice A0 U.length c0) := (blk_cell hbox 0).trans rfl; have hy1 : w2.cell? ⟨gb, 1, none⟩ = some (.slice A1 N.length c1) := (blk_cell hbox 1).trans rfl; have HB2 := Aside0.mk (below_step HB.out hb); have HX2 := Aside0.mk hbox; clear hbox hb hx0 hx1 HX HB) | ((with_reducible refine gate_dst (N := 33) rfl ?_); refine box_event ?hg (N := 33) ?hd (cs := #[.slice A0 U.length c0, .slice none 0 0, .slice none 0 0, .slice A1 N.length c1, .int .i64 0, .int .i64 0]) (t := 81) ?hr ?_; (case hd => rfl); (case hg => rfl); (case hr => first | (go_simp; done) | (go_simp; rfl)); intro g hg_g w3 hbox_g hb; have HB3 := Aside0.mk (below_step HB2.out hb); have HG3 := Aside0.mk hbox_g; have HGE := Aside0.mk ((by rw [hg_g]; exact below_size HB2.out) : w.heap.size ≤ g); have hbox := blk_below HX2.out hb; have HNE := Aside0.mk ((by rw [hg_g]; exact Nat.ne_of_lt (blk_lt HX2.out)) : gb ≠ g); have hz0 : w3.cell? ⟨gb, 0, none⟩ = some (.slice A0 U.length c0) := (blk_cell hbox 0).trans rfl; have hz1 : w3.cell? ⟨gb, 1, none⟩ = some (.slice A1 N.length c1) := (blk_cell hbox 1).trans rfl; have HX3 := Aside0.mk hbox; clear hbox hb hbox_g hg_g hy0 hy1 HX2 HB2) | (go_at_call 104; (with_reducible refine (impl_turned.calls k _ _ U (turnL U) _ ?s1 ?s2 HTurn.out).mono ?_); (case s1 => exact Kd.C_below HR0.out HB3.out); (case s2 => assumption); rintro e w4 ⟨vo, rfl, ho, hb⟩; have HB4 := Aside0.mk (below_step HB3.out hb); have HG4 := Aside0.mk (blk_below HG3.out hb); have hbox := blk_below HX3.out hb; have hq0 : w4.cell? ⟨gb, 0, none⟩ = some (.slice A0 U.length c0) := (blk_cell hbox 0).trans rfl; have hq1 : w4.cell? ⟨gb, 1, none⟩ = some (.slice A1 N.length c1) := (blk_cell hbox 1).trans rfl; have HX4 := Aside0.mk hbox; obtain ⟨Ao, co, rfl⟩ := Kd.S_slice ho; have HOv := Aside0.mk ((Kd.S_reads' ho).2.1); have hlt_ := blk_lt HG3.out; have HOr := Aside0.mk (show Kd.R (Kd.slice 3 (Kd.int .i64)) 23 w4 w.heap.size (fun k_ => (k_ ≠ g ∧ some k_ ≠ (Value.slice none 0 0).ownBlock) ∧ some k_ ≠ (Value.slice none 0 0).ownBlock) (.slice Ao (turnL U).length co) (turnL U) from Kd.R_mono (Kd.R_lower (Kd.R_bound (Kd.S_R ho)) (below_size HB3.out)) (fun k_ hk => ⟨⟨by have := hk.2.1; omega, by simp [Value.ownBlock]⟩, by simp [Value.ownBlock]⟩)); clear hbox hb hz0 hz1 HX3 HB3 HG3 ho hlt_))
  go_loopg [40] (U.length + 1) (fun kq v40 W => ∃ (a : Nat) (vA vO : Value), v40 = .int .i64 a ∧ Aside0 (a + kq = U.length + 1) ∧ Aside0 (a ≤ U.length) ∧ Aside0 (W.heap[g]? = some (.cells #[.slice A0 U.length c0, vA, vO, .slice A1 N.length c1, .int .i64 (0), .int .i64 (0)] 81 (0, 0))) ∧ Aside0 (Kd.R (Kd.slice 3 (Kd.int .i64)) 23 W w.heap.size (fun k_ => True ∧ some k_ ≠ vO.ownBlock) vA (tabT U.length (mI U) a)) ∧ Aside0 (Kd.R (Kd.slice 3 (Kd.int .i64)) 23 W w.heap.size (fun k_ => True ∧ some k_ ≠ vA.ownBlock) vO (tabT U.length (jI U) a)) ∧ Aside0 (W.heap[gb]? = some (.cells #[.slice A0 U.length c0, .slice A1 N.length c1] 28 (0, 0))) ∧ Aside0 (Kd.R (Kd.slice 3 (Kd.int .i64)) 23 W w.heap.size (fun k_ => (k_ ≠ g ∧ some k_ ≠ vO.ownBlock) ∧ some k_ ≠ vA.ownBlock) (.slice Ao (turnL U).length co) (turnL U)) ∧ Aside0 (Below w.heap.size w W))
  case atStart => exact ⟨0, .slice none 0 0, .slice none 0 0, rfl, ⟨by omega⟩, ⟨by omega⟩, ⟨HG4.out⟩, ⟨Kd.R_nil _ _ _ _ _⟩, ⟨Kd.R_nil _ _ _ _ _⟩, ⟨HX4.out⟩, ⟨HOr.out⟩, ⟨HB4.out⟩⟩
  case round =>
    clear HG4 HX4 HB4 HOr hq0 hq1
    obtain ⟨a, vA, vO, rfl, HK, HK2, HG, HA, HO, HX, HOr, HB⟩ := hrel
    cases gk with
    | zero => exact absurd HK.out (by have := HK2.out; omega)
    | succ kn =>
    have hq0 : wr.cell? ⟨gb, 0, none⟩ = some (.slice A0 U.length c0) := (blk_cell HX.out 0).trans rfl
    have hq1 : wr.cell? ⟨gb, 1, none⟩ = some (.slice A1 N.length c1) := (blk_cell HX.out 1).trans rfl
    by_cases hlt : a < U.length
    · have hlt' : decide (a < U.length) = true := decide_eq_true hlt
      have HLT := Aside0.mk hlt
      clear hlt
      go_wp2_with (first | ((with_reducible refine gate_dst (N := 43) rfl ?_); refine Kd.R_lit (Kd.int .i64) _ 3 ?hg (N := 43) ?hd (xs := ([] : List Int)) (inner := []) (ok := fun _ => True) (okp := fun _ => True) ?hr ?hp (fun _ hk => hk) trivial (Below.refl _ _) (Nat.le_refl _) (by simp) ?_; (case hd => rfl); (case hg => rfl); (case hr => first | (go_simp; done) | (go_simp; rfl)); (case hp => exact (Reps.none _ _)); intro va wa ho hb hg_ hnew_; clear hg_; have HBa := Aside0.mk hb; have HVa := Aside0.mk ho; have hr0 : wa.cell? ⟨gb, 0, none⟩ = some (.slice A0 U.length c0) := (blk_cell (blk_below HX.out hb) 0).trans rfl; clear ho hb hnew_) | ((with_reducible refine gate_dst (N := 44) rfl ?_); refine Kd.R_lit (Kd.int .i64) _ 3 ?hg (N := 44) ?hd (xs := ([] : List Int)) (inner := []) (ok := fun _ => True) (okp := fun _ => True) ?hr ?hp (fun _ hk => hk) trivial (Below.refl _ _) (Nat.le_refl _) (by simp) ?_; (case hd => rfl); (case hg => rfl); (case hr => first | (go_simp; done) | (go_simp; rfl)); (case hp => exact (Reps.none _ _)); intro vb wb ho hb hg_ hnew_; clear hg_; have HBi := Aside0.mk (below_step HBa.out hb); have hr1 : wb.cell? ⟨gb, 0, none⟩ = some (.slice A0 U.length c0) := (blk_cell (blk_below HX.out HBi.out) 0).trans rfl; have HVO := Aside0.mk (Kd.R_mono (Kd.R_lower (Kd.R_newR ho HVa.out) (below_size HBa.out)) (fun k_ hk => hk)); have HVA := Aside0.mk (Kd.R_mono (Kd.R_elder HVa.out ho hb) (fun k_ hk => hk)); clear ho hb hnew_ HVa HBa hr0))
      obtain ⟨wo, rfl⟩ : ∃ wo : World, wo = wr := ⟨_, rfl⟩
      have HOC := Aside0.mk (Kd.R_reads' HOr.out).2.2
      clear hr1 hq0 hq1
      go_loopg [6, 7, 48] (U.length + 1) (fun kj v6 v7 v48 W => ∃ (b : Nat), v48 = .int .i64 b ∧ Aside0 (b + kj = U.length + 1) ∧ Aside0 (b ≤ U.length) ∧ Aside0 (Kd.R (Kd.int .i64) 3 W wo.heap.size (fun k_ => True ∧ some k_ ≠ v7.ownBlock) v6 (rowT (mI U) a b)) ∧ Aside0 (Kd.R (Kd.int .i64) 3 W wo.heap.size (fun k_ => True ∧ some k_ ≠ v6.ownBlock) v7 (rowT (jI U) a b)) ∧ Aside0 (Below wo.heap.size wo W))
      case atStart => exact ⟨0, rfl, ⟨by omega⟩, ⟨by omega⟩, ⟨HVA.out⟩, ⟨HVO.out⟩, ⟨HBi.out⟩⟩
      case round =>
        clear HVA HVO HBi
        obtain ⟨b, rfl, HKj, HKj2, HVA, HVO, HBi⟩ := hrel
        cases gk with
        | zero => exact absurd HKj.out (by have := HKj2.out; omega)
        | succ kj =>
        have hs0 : wr.cell? ⟨gb, 0, none⟩ = some (.slice A0 U.length c0) := (blk_cell (blk_below HX.out HBi.out) 0).trans rfl
        by_cases hltb : b < U.length
        · have hltb' : decide (b < U.length) = true := decide_eq_true hltb
          have HLTb := Aside0.mk hltb
          clear hltb
          have HM1 := Aside0.mk (HF.out.meet HLB.out a b HLT.out HLTb.out)
          have HM2 := Aside0.mk (HF.out.join HLB.out a b HLT.out HLTb.out)
          go_wp2_with (first | (go_at_call 105; (first | (with_reducible refine (impl_meet.calls k _ _ U a b (mI U a b) _ ?s1 ?s2 HM1.out).mono ?_) | (with_reducible refine (impl_meet.calls k _ _ (turnL U) a b (jI U a b) _ ?s1 ?s2 HM2.out).mono ?_)); (case s1 => (repeat (first | exact Kd.C_below HR0.out (below_step HB.out HBi.out) | exact Kd.C_below HOC.out HBi.out | exact Kd.C_below HR0.out (below_step HB.out HBj.out) | exact Kd.C_below HOC.out HBj.out | refine Kd.C_alloc ?_ _ | refine Kd.C_drewN ?_ _))); (case s2 => first | assumption | exact HOv.out); rintro e w' ⟨rfl, ⟨nd, rfl⟩⟩) | (at_builtin; refine Kd.R_append (Kd.int .i64) (w0 := wo) wo.heap.size rfl (.tmp 51) (.tmp 57) 23 3 (.int .i64 0) 8 rfl Try.underlying23 infoInt rfl (by decide) (by omega) u6 (rowT (mI U) a b) (mI U a b) [.int .i64 ((mI U a b))] (fun k_ => True ∧ some k_ ≠ (u7 : Value).ownBlock) (fun _ => False) rfl rfl ?aP (fun _ hk => hk.elim) ?aF ?aO ?aB ?aS ?aL ?_; (case aP => exact rfl); (case aF => exact fun k_ hk => ⟨trivial, Kd.fresh_ok (Kd.R_drewN HVO.out _) k_ hk⟩); (case aO => exact Kd.R_drewN HVA.out _); (case aB => exact pw_below_drewN HBi.out _); (case aS => exact below_size (pw_below_drewN HBi.out _)); (case aL => have := HLTb.out; have := HSM.out; rw [rowT_length]; omega); intro va2 w5 ho hb hg hat; rw [← rowT_succ] at ho; have HBj := Aside0.mk hb; have HVA2 := Aside0.mk ho; have HVO2 := Aside0.mk (Kd.R_after (Kd.R_drewN HVO.out _) hg hat); have hs1 : w5.cell? ⟨gb, 0, none⟩ = some (.slice A0 U.length c0) := (blk_cell (blk_below HX.out HBj.out) 0).trans rfl; clear ho hb hg hat HVA HVO HBi hs0) | (at_builtin; refine Kd.R_append (Kd.int .i64) (w0 := wo) wo.heap.size rfl (.tmp 59) (.tmp 64) 23 3 (.int .i64 0) 8 rfl Try.underlying23 infoInt rfl (by decide) (by omega) u7 (rowT (jI U) a b) (jI U a b) [.int .i64 ((jI U a b))] (fun k_ => True ∧ some k_ ≠ (va2 : Value).ownBlock) (fun _ => False) rfl rfl ?aP (fun _ hk => hk.elim) ?aF ?aO ?aB ?aS ?aL ?_; (case aP => exact rfl); (case aF => exact fun k_ hk => ⟨trivial, Kd.fresh_ok (Kd.R_drewN HVA2.out _) k_ hk⟩); (case aO => exact Kd.R_drewN HVO2.out _); (case aB => exact pw_below_drewN HBj.out _); (case aS => exact below_size (pw_below_drewN HBj.out _)); (case aL => have := HLTb.out; have := HSM.out; rw [rowT_length]; omega); intro vo2 w6 ho hb hg hat; rw [← rowT_succ] at ho; have HBk := Aside0.mk hb; have HVO3 := Aside0.mk ho; have HVA3 := Aside0.mk (Kd.R_after (Kd.R_drewN HVA2.out _) hg hat); clear ho hb hg hat HVA2 HVO2 HBj hs1))
          go_roundg kj
          case measure => omega
          case rel => exact ⟨b + 1, by rw [wrap_small (by omega) (by have := HLTb.out; have := HSM.out; omega)]; go_num, ⟨by have := HKj.out; omega⟩, ⟨by have := HLTb.out; omega⟩, ⟨HVA3.out⟩, ⟨HVO3.out⟩, ⟨HBk.out⟩⟩
        · have hltb' : decide (b < U.length) = false := decide_eq_false hltb
          obtain rfl : b = U.length := by have := HKj2.out; omega
          clear hltb
          obtain ⟨AA, cA, rfl⟩ := Kd.R_slice HA.out
          obtain ⟨AO, cO, rfl⟩ := Kd.R_slice HO.out
          obtain ⟨Aa, ca, rfl⟩ := Kd.R_slice HVA.out
          obtain ⟨Ab, cb, rfl⟩ := Kd.R_slice HVO.out
          have HrA := Aside0.mk (show Kd.R (Kd.int .i64) 3 wr w.heap.size (fun k_ => some k_ ≠ (Value.slice AO (tabT U.length (jI U) a).length cO).ownBlock ∧ some k_ ≠ (Value.slice AA (tabT U.length (mI U) a).length cA).ownBlock) (.slice Aa (rowT (mI U) a U.length).length ca) (rowT (mI U) a U.length) from Kd.R_mono (Kd.R_lower (Kd.R_newR (Kd.R_newR HVA.out HA.out) HO.out) (below_size HB.out)) (fun k_ hk => ⟨hk.2, hk.1.2⟩))
          have HrO := Aside0.mk (show Kd.R (Kd.int .i64) 3 wr w.heap.size (fun k_ => some k_ ≠ (Value.slice AO (tabT U.length (jI U) a).length cO).ownBlock ∧ some k_ ≠ (Value.slice AA (tabT U.length (mI U) a).length cA).ownBlock) (.slice Ab (rowT (jI U) a U.length).length cb) (rowT (jI U) a U.length) from Kd.R_mono (Kd.R_lower (Kd.R_newR (Kd.R_newR HVO.out HA.out) HO.out) (below_size HB.out)) (fun k_ hk => ⟨hk.2, hk.1.2⟩))
          have HAr := Aside0.mk (Kd.R_below HA.out HBi.out)
          have HOr2 := Aside0.mk (Kd.R_below HO.out HBi.out)
          have HVr := Aside0.mk (Kd.R_below HOr.out HBi.out)
          have HBr := Aside0.mk (below_step HB.out HBi.out)
          have HXr := Aside0.mk (blk_below HX.out HBi.out)
          have hG := blk_below HG.out HBi.out
          have hg1 : wr.cell? ⟨g, 1, none⟩ = some (.slice AA (tabT U.length (mI U) a).length cA) := (blk_cell hG 1).trans rfl
          have hg2 : wr.cell? ⟨g, 2, none⟩ = some (.slice AO (tabT U.length (jI U) a).length cO) := (blk_cell hG 2).trans rfl
          have HGr := Aside0.mk hG
          have ha11 : a < 12 := by have := HLT.out; have := HSM.out; omega
          clear hG HVA HVO hs0 HA HO HOr HB HX HG HOC
          go_wp2_with fail
          refine start_ (n := 22) (S := (fun w' => w'.cell? ⟨g, 1, none⟩ = some (.slice AA (tabT U.length (mI U) a).length cA) ∧ w'.cell? ⟨g, 2, none⟩ = some (.slice AO (tabT U.length (jI U) a).length cO))) (ds := [18, 21]) #[false, false, false, false, false, false, false, false, false, false, false, false, false, false, false, false, false, false, false, false, false, false] (by kernel_rfl) rfl rfl ⟨hg1, hg2⟩ (fun hHeld => ?_)
          refine with_tabW impl_told.tab15 impl_told.bits15 (fun HT_ HW_ => ?_)
          generalize hwd : wr.drew = wd at hHeld ⊢
          have HWD := Aside0.mk hwd; clear hwd
          replace HrA := Aside0.mk (HWD.out ▸ (Kd.R_drew HrA.out))
          replace HrO := Aside0.mk (HWD.out ▸ (Kd.R_drew HrO.out))
          replace HAr := Aside0.mk (HWD.out ▸ (Kd.R_drew HAr.out))
          replace HOr2 := Aside0.mk (HWD.out ▸ (Kd.R_drew HOr2.out))
          replace HVr := Aside0.mk (HWD.out ▸ (Kd.R_drew HVr.out))
          replace HBr := Aside0.mk (HWD.out ▸ (below_drew HBr.out))
          replace HXr := Aside0.mk (HWD.out ▸ (blk_drew HXr.out))
          replace HGr := Aside0.mk (HWD.out ▸ (blk_drew HGr.out))
          refine pure_ (i := 0) (N := some 67) (v := ?_) (a' := ?_) #[true, false, false, false, false, false, false, false, false, false, false, false, false, false, false, false, false, false, false, false, false, false] rfl rfl (any_of HT_.out (by kernel_rfl)) (fun _ _ _ h => h) (Or.inl ⟨by rfl, ?_⟩) ?_ ?_
          rotate_left
          · intro w'; go_simp; with_reducible rfl
          rotate_left
          · simp only [Act.put, List.setIfInBounds_toArray, List.set_cons_zero, List.set_cons_succ, i64_w, i32_w]; rfl
          refine pure_ (i := 1) (N := some 68) (v := ?_) (a' := ?_) #[true, true, false, false, false, false, false, false, false, false, false, false, false, false, false, false, false, false, false, false, false, false] rfl rfl (any_of HT_.out (by kernel_rfl)) (fun _ _ _ h => h) (Or.inl ⟨by rfl, ?_⟩) ?_ ?_
          rotate_left
          · intro w'; go_simp; with_reducible rfl
          rotate_left
          · simp only [Act.put, List.setIfInBounds_toArray, List.set_cons_zero, List.set_cons_succ, i64_w, i32_w]; rfl
          refine pure_ (i := 2) (N := some 69) (v := ?_) (a' := ?_) #[true, true, true, false, false, false, false, false, false, false, false, false, false, false, false, false, false, false, false, false, false, false] rfl rfl (any_of HT_.out (by kernel_rfl)) (fun _ _ _ h => h) (Or.inl ⟨by rfl, ?_⟩) ?_ ?_
          rotate_left
          · intro w'; go_simp; with_reducible rfl
          rotate_left
          · simp only [Act.put, List.setIfInBounds_toArray, List.set_cons_zero, List.set_cons_succ, i64_w, i32_w]; rfl
          refine pure_ (i := 3) (N := some 70) (v := ?_) (a' := ?_) #[true, true, true, true, false, false, false, false, false, false, false, false, false, false, false, false, false, false, false, false, false, false] rfl rfl (any_of HT_.out (by kernel_rfl)) (fun _ _ _ h => h) (Or.inl ⟨by rfl, ?_⟩) ?_ ?_
          rotate_left
          · intro w'; go_simp; with_reducible rfl
          rotate_left
          · simp only [Act.put, List.setIfInBounds_toArray, List.set_cons_zero, List.set_cons_succ, i64_w, i32_w]; rfl
          refine pure_ (i := 4) (N := some 71) (v := ?_) (a' := ?_) #[true, true, true, true, true, false, false, false, false, false, false, false, false, false, false, false, false, false, false, false, false, false] rfl rfl (any_of HT_.out (by kernel_rfl)) (fun _ _ _ h => h) (Or.inl ⟨by rfl, ?_⟩) ?_ ?_
          rotate_left
          · intro w'; go_simp; with_reducible rfl
          rotate_left
          · simp only [Act.put, List.setIfInBounds_toArray, List.set_cons_zero, List.set_cons_succ, i64_w, i32_w]; rfl
          refine pure_ (i := 6) (N := some 73) (v := ?_) (a' := ?_) #[true, true, true, true, true, false, true, false, false, false, false, false, false, false, false, false, false, false, false, false, false, false] rfl rfl (any_of HT_.out (by kernel_rfl)) (fun _ _ _ h => h) (Or.inl ⟨by rfl, ?_⟩) ?_ ?_
          rotate_left
          · intro w'; go_simp; with_reducible rfl
          rotate_left
          · simp only [Act.put, List.setIfInBounds_toArray, List.set_cons_zero, List.set_cons_succ, i64_w, i32_w]; rfl
          refine pure_ (i := 9) (N := some 76) (v := ?_) (a' := ?_) #[true, true, true, true, true, false, true, false, false, true, false, false, false, false, false, false, false, false, false, false, false, false] rfl rfl (any_of HT_.out (by kernel_rfl)) (fun _ _ _ h => h) (Or.inl ⟨by rfl, ?_⟩) ?_ ?_
          rotate_left
          · intro w'; go_simp; with_reducible rfl
          rotate_left
          · simp only [Act.put, List.setIfInBounds_toArray, List.set_cons_zero, List.set_cons_succ, i64_w, i32_w]; rfl
          refine pure_ (i := 10) (N := some 77) (v := ?_) (a' := ?_) #[true, true, true, true, true, false, true, false, false, true, true, false, false, false, false, false, false, false, false, false, false, false] rfl rfl (any_of HT_.out (by kernel_rfl)) (fun _ _ _ h => h) (Or.inl ⟨by rfl, ?_⟩) ?_ ?_
          rotate_left
          · intro w'; go_simp; with_reducible rfl
          rotate_left
          · simp only [Act.put, List.setIfInBounds_toArray, List.set_cons_zero, List.set_cons_succ, i64_w, i32_w]; rfl
          refine pure_ (i := 11) (N := some 78) (v := ?_) (a' := ?_) #[true, true, true, true, true, false, true, false, false, true, true, true, false, false, false, false, false, false, false, false, false, false] rfl rfl (any_of HT_.out (by kernel_rfl)) (fun _ _ _ h => h) (Or.inl ⟨by rfl, ?_⟩) ?_ ?_
          rotate_left
          · intro w'; go_simp; with_reducible rfl
          rotate_left
          · simp only [Act.put, List.setIfInBounds_toArray, List.set_cons_zero, List.set_cons_succ, i64_w, i32_w]; rfl
          refine pure_ (i := 13) (N := some 80) (v := ?_) (a' := ?_) #[true, true, true, true, true, false, true, false, false, true, true, true, false, true, false, false, false, false, false, false, false, false] rfl rfl (any_of HT_.out (by kernel_rfl)) (fun _ _ _ h => h) (Or.inl ⟨by rfl, ?_⟩) ?_ ?_
          rotate_left
          · intro w'; go_simp; with_reducible rfl
          rotate_left
          · simp only [Act.put, List.setIfInBounds_toArray, List.set_cons_zero, List.set_cons_succ, i64_w, i32_w]; rfl
          refine take_ (i := 5) (N := some 72) (v := ?_) (a' := ?_) #[true, true, true, true, true, true, true, false, false, true, true, true, false, true, false, false, false, false, false, false, false, false] rfl rfl (take_ofW HT_.out HW_.out (by kernel_rfl)) (fun _ _ _ h => h) (Or.inl ⟨by rfl, ?_⟩) hHeld ?_ ?_
          rotate_left
          · rintro w' ⟨s0, s1⟩; go_simp; with_reducible rfl
          rotate_left
          · simp only [Act.put, List.setIfInBounds_toArray, List.set_cons_zero, List.set_cons_succ, i64_w, i32_w]; rfl
          refine take_ (i := 12) (N := some 79) (v := ?_) (a' := ?_) #[true, true, true, true, true, true, true, false, false, true, true, true, true, true, false, false, false, false, false, false, false, false] rfl rfl (take_ofW HT_.out HW_.out (by kernel_rfl)) (fun _ _ _ h => h) (Or.inl ⟨by rfl, ?_⟩) hHeld ?_ ?_
          rotate_left
          · rintro w' ⟨s0, s1⟩; go_simp; with_reducible rfl
          rotate_left
          · simp only [Act.put, List.setIfInBounds_toArray, List.set_cons_zero, List.set_cons_succ, i64_w, i32_w]; rfl
          refine join_ (σ := Nat × Nat × Option Addr × Nat × Option Addr × Nat) 6 #[true, true, true, true, true, true, true, true, true, true, true, true, true, true, true, true, false, false, false, false, false, false] (fun s => [(74, .slice (some ⟨s.1, 0, none⟩) 1 1), (75, .slice s.2.2.1 (tabT U.length (mI U) (a + 1)).length s.2.2.2.1), (81, .slice (some ⟨s.2.1, 0, none⟩) 1 1), (82, .slice s.2.2.2.2.1 (tabT U.length (jI U) (a + 1)).length s.2.2.2.2.2)]) (fun s W => W.heap[g]? = some (.cells #[.slice A0 U.length c0, .slice AA (tabT U.length (mI U) a).length cA, .slice AO (tabT U.length (jI U) a).length cO, .slice A1 N.length c1, .int .i64 (0), .int .i64 (0)] 81 (0, 0)) ∧ W.heap[gb]? = some (.cells #[.slice A0 U.length c0, .slice A1 N.length c1] 28 (0, 0)) ∧ Kd.R (Kd.slice 3 (Kd.int .i64)) 23 W w.heap.size (fun k_ => True ∧ some k_ ≠ (Value.slice s.2.2.2.2.1 (tabT U.length (jI U) (a + 1)).length s.2.2.2.2.2).ownBlock) (.slice s.2.2.1 (tabT U.length (mI U) (a + 1)).length s.2.2.2.1) (tabT U.length (mI U) (a + 1)) ∧ Kd.R (Kd.slice 3 (Kd.int .i64)) 23 W w.heap.size (fun k_ => True ∧ some k_ ≠ (Value.slice s.2.2.1 (tabT U.length (mI U) (a + 1)).length s.2.2.2.1).ownBlock) (.slice s.2.2.2.2.1 (tabT U.length (jI U) (a + 1)).length s.2.2.2.2.2) (tabT U.length (jI U) (a + 1)) ∧ Kd.R (Kd.slice 3 (Kd.int .i64)) 23 W w.heap.size (fun k_ => (k_ ≠ g ∧ some k_ ≠ (Value.slice s.2.2.1 (tabT U.length (mI U) (a + 1)).length s.2.2.2.1).ownBlock) ∧ some k_ ≠ (Value.slice s.2.2.2.2.1 (tabT U.length (jI U) (a + 1)).length s.2.2.2.2.2).ownBlock) (.slice Ao (turnL U).length co) (turnL U) ∧ Below w.heap.size w W) ?cont (fun hC => ?_)
          rotate_left
          refine two_ (i := 7) (j := 14) (Ni := some 74) (Nj := some 81) #[true, true, true, true, true, true, true, true, false, true, true, true, true, true, false, false, false, false, false, false, false, false] #[true, true, true, true, true, true, true, false, false, true, true, true, true, true, true, false, false, false, false, false, false, false] rfl rfl rfl rfl (by kernel_rfl) (by decide) (by decide) (fun K hK => ?_) (fun K hK => ?_)
          · skip
            refine event_step (w1 := World.alloc (wd) (.cells #[.slice Aa (rowT (mI U) a U.length).length ca] 23)) (v := .slice (some ⟨wd.heap.size, 0, none⟩) 1 1) (by rfl) ?hr1 ?_
            case hr1 => first | (go_simp; done) | (go_simp; rfl)
            refine hK.out _ _ ⟨(blk_cell (blk_alloc HGr.out _) 1).trans rfl, (blk_cell (blk_alloc HGr.out _) 2).trans rfl⟩ (fun hHeld1 => ?_)
            clear hK K
            (try simp only [Act.put, List.setIfInBounds_toArray, List.set_cons_zero, List.set_cons_succ])
            refine two_ (i := 8) (j := 14) (Ni := some 75) (Nj := some 81) #[true, true, true, true, true, true, true, true, true, true, true, true, true, true, false, false, false, false, false, false, false, false] #[true, true, true, true, true, true, true, true, false, true, true, true, true, true, true, false, false, false, false, false, false, false] rfl rfl rfl rfl (by kernel_rfl) (by decide) (by decide) (fun K hK => ?_) (fun K hK => ?_)
            · skip
              refine Kd.R_append_rows_step (Kd.slice 3 (Kd.int .i64)) (Rr := fun x_ cs_ => x_ = rowT (mI U) a U.length ∧ cs_ = [.slice Aa (rowT (mI U) a U.length).length ca]) (w0 := w) w.heap.size (by rfl) (.tmp 72) (.tmp 74) 22 23 (.slice none 0 0) 24 rfl Try.underlying22 infoRow rfl (by decide) (by omega) (.slice AA (tabT U.length (mI U) a).length cA) (tabT U.length (mI U) a) [rowT (mI U) a U.length] _ 1 1 (fun k_ => True ∧ some k_ ≠ (.slice AO (tabT U.length (jI U) a).length cO : Value).ownBlock) (fun k_ => some k_ ≠ (.slice AO (tabT U.length (jI U) a).length cO : Value).ownBlock ∧ some k_ ≠ (.slice AA (tabT U.length (mI U) a).length cA : Value).ownBlock) rfl rfl (by (repeat (first | exact HAr.out | apply Kd.R_alloc))) (reads_one (by first | (go_simp; done) | (simp; done) | assumption | (go_simp; assumption))) ?aK2 (fun k_ hk => ⟨⟨trivial, hk.1⟩, hk.2⟩) ?aF2 (by (repeat (first | exact HB7.out | exact HBr.out | apply below_alloc))) (below_size (by (repeat (first | exact HB7.out | exact HBr.out | apply below_alloc)))) (by rw [tabT_length]; omega) ?_
              case aK2 => rintro x_ cs_ ⟨rfl, rfl⟩; exact ⟨_, rfl, (by (repeat (first | exact HrA.out | apply Kd.R_alloc)))⟩
              case aF2 => exact fun k_ hk => ⟨trivial, Kd.fresh_ok (by (repeat (first | exact HOr2.out | apply Kd.R_alloc))) k_ hk⟩
              intro v7 w7 ho hb hg hat
              rw [← tabT_succ] at ho
              obtain ⟨A7, c7, rfl⟩ := Kd.R_slice ho
              have HB7 := Aside0.mk hb
              have HA7 := Aside0.mk ho
              have HO7 := Aside0.mk (Kd.R_after (by (repeat (first | exact HOr2.out | apply Kd.R_alloc))) hg hat)
              have HrO7 := Aside0.mk (Kd.R_after (by (repeat (first | exact HrO.out | apply Kd.R_alloc))) hg hat)
              have HV7 := Aside0.mk (Kd.R_after (by (repeat (first | exact HVr.out | apply Kd.R_alloc))) hg hat)
              have hg0 := Kd.R_lt HAr.out
              have HG7 := Aside0.mk (blk_grown (g := g) (o := .cells #[.slice A0 U.length c0, .slice AA (tabT U.length (mI U) a).length cA, .slice AO (tabT U.length (jI U) a).length cO, .slice A1 N.length c1, .int .i64 (0), .int .i64 (0)] 81 (0, 0)) (by (repeat (first | exact HGr.out | refine blk_alloc ?_ _))) hg (Kd.R_ne HAr.out HGr.out (by decide)))
              have HX7 := Aside0.mk (blk_grown (g := gb) (o := .cells #[.slice A0 U.length c0, .slice A1 N.length c1] 28 (0, 0)) (by (repeat (first | exact HXr.out | refine blk_alloc ?_ _))) hg (Kd.R_ne HAr.out HXr.out (by decide)))
              clear ho hb hg hat hg0
              refine hK.out _ _ ⟨(blk_cell HG7.out 1).trans rfl, (blk_cell HG7.out 2).trans rfl⟩ (fun hHeld7 => ?_)
              clear hK K
              (try simp only [Act.put, List.setIfInBounds_toArray, List.set_cons_zero, List.set_cons_succ])
              refine one_ (i := 14) (N := some 81) #[true, true, true, true, true, true, true, true, true, true, true, true, true, true, true, false, false, false, false, false, false, false] rfl rfl (one_of HT_.out (by kernel_rfl)) (by decide) (fun K hK => ?_)
              refine event_step (w1 := World.alloc (w7) (.cells #[.slice Ab (rowT (jI U) a U.length).length cb] 23)) (v := .slice (some ⟨w7.heap.size, 0, none⟩) 1 1) (by rfl) ?hr3 ?_
              case hr3 => first | (go_simp; done) | (go_simp; rfl)
              refine hK.out _ _ ⟨(blk_cell (blk_alloc HG7.out _) 1).trans rfl, (blk_cell (blk_alloc HG7.out _) 2).trans rfl⟩ (fun hHeld3 => ?_)
              clear hK K
              (try simp only [Act.put, List.setIfInBounds_toArray, List.set_cons_zero, List.set_cons_succ])
              refine one_ (i := 15) (N := some 82) #[true, true, true, true, true, true, true, true, true, true, true, true, true, true, true, true, false, false, false, false, false, false] rfl rfl (one_of HT_.out (by kernel_rfl)) (by decide) (fun K hK => ?_)
              refine Kd.R_append_rows_step (Kd.slice 3 (Kd.int .i64)) (Rr := fun x_ cs_ => x_ = rowT (jI U) a U.length ∧ cs_ = [.slice Ab (rowT (jI U) a U.length).length cb]) (w0 := w) w.heap.size (by rfl) (.tmp 79) (.tmp 81) 22 23 (.slice none 0 0) 24 rfl Try.underlying22 infoRow rfl (by decide) (by omega) (.slice AO (tabT U.length (jI U) a).length cO) (tabT U.length (jI U) a) [rowT (jI U) a U.length] _ 1 1 (fun k_ => True ∧ some k_ ≠ (.slice A7 (tabT U.length (mI U) (a + 1)).length c7 : Value).ownBlock) (fun k_ => some k_ ≠ (.slice AO (tabT U.length (jI U) a).length cO : Value).ownBlock ∧ some k_ ≠ (.slice A7 (tabT U.length (mI U) (a + 1)).length c7 : Value).ownBlock) rfl rfl (by (repeat (first | exact HO7.out | apply Kd.R_alloc))) (reads_one (by first | (go_simp; done) | (simp; done) | assumption | (go_simp; assumption))) ?aK4 (fun k_ hk => ⟨⟨trivial, hk.2⟩, hk.1⟩) ?aF4 (by (repeat (first | exact HB7.out | exact HBr.out | apply below_alloc))) (below_size (by (repeat (first | exact HB7.out | exact HBr.out | apply below_alloc)))) (by rw [tabT_length]; omega) ?_
              case aK4 => rintro x_ cs_ ⟨rfl, rfl⟩; exact ⟨_, rfl, (by (repeat (first | exact HrO7.out | apply Kd.R_alloc)))⟩
              case aF4 => exact fun k_ hk => ⟨trivial, Kd.fresh_ok (by (repeat (first | exact HA7.out | apply Kd.R_alloc))) k_ hk⟩
              intro v8 w8 ho hb hg hat
              rw [← tabT_succ] at ho
              obtain ⟨A8, c8, rfl⟩ := Kd.R_slice ho
              have HB8 := Aside0.mk hb
              have HO8 := Aside0.mk ho
              have HA8 := Aside0.mk (Kd.R_after (by (repeat (first | exact HA7.out | apply Kd.R_alloc))) hg hat)
              have HV8 := Aside0.mk (Kd.R_after (Kd.R_mono (ok' := fun k_ => (k_ ≠ g ∧ some k_ ≠ (Value.slice A7 (tabT U.length (mI U) (a + 1)).length c7).ownBlock) ∧ some k_ ≠ (Value.slice AO (tabT U.length (jI U) a).length cO).ownBlock) (by (repeat (first | exact HV7.out | apply Kd.R_alloc))) (fun k_ (hk : (k_ ≠ g ∧ some k_ ≠ (Value.slice AO (tabT U.length (jI U) a).length cO).ownBlock) ∧ some k_ ≠ (Value.slice A7 (tabT U.length (mI U) (a + 1)).length c7).ownBlock) => ⟨⟨hk.1.1, hk.2⟩, hk.1.2⟩)) hg hat)
              have HG8 := Aside0.mk (blk_grown (g := g) (o := .cells #[.slice A0 U.length c0, .slice AA (tabT U.length (mI U) a).length cA, .slice AO (tabT U.length (jI U) a).length cO, .slice A1 N.length c1, .int .i64 (0), .int .i64 (0)] 81 (0, 0)) (by (repeat (first | exact HG7.out | refine blk_alloc ?_ _))) hg (Kd.R_ne HO7.out HG7.out (by decide)))
              have HX8 := Aside0.mk (blk_grown (g := gb) (o := .cells #[.slice A0 U.length c0, .slice A1 N.length c1] 28 (0, 0)) (by (repeat (first | exact HX7.out | refine blk_alloc ?_ _))) hg (Kd.R_ne HO7.out HX7.out (by decide)))
              clear ho hb hg hat
              refine hK.out _ _ ⟨(blk_cell HG8.out 1).trans rfl, (blk_cell HG8.out 2).trans rfl⟩ (fun hHeld8 => ?_)
              clear hK K
              (try simp only [Act.put, List.setIfInBounds_toArray, List.set_cons_zero, List.set_cons_succ])
              exact hC ⟨wd.heap.size, w7.heap.size, A7, c7, A8, c8⟩ w8 ⟨HG8.out, HX8.out, HA8.out, HO8.out, HV8.out, HB8.out⟩
            · skip
              refine event_step (w1 := World.alloc (World.alloc wd (.cells #[.slice Aa (rowT (mI U) a U.length).length ca] 23)) (.cells #[.slice Ab (rowT (jI U) a U.length).length cb] 23)) (v := .slice (some ⟨wd.heap.size + 1, 0, none⟩) 1 1) (by rfl) ?hr5 ?_
              case hr5 => first | (go_simp; done) | (go_simp; rfl)
              refine hK.out _ _ ⟨(blk_cell (blk_alloc (blk_alloc HGr.out _) _) 1).trans rfl, (blk_cell (blk_alloc (blk_alloc HGr.out _) _) 2).trans rfl⟩ (fun hHeld2 => ?_)
              clear hK K
              (try simp only [Act.put, List.setIfInBounds_toArray, List.set_cons_zero, List.set_cons_succ])
              refine one_ (i := 8) (N := some 75) #[true, true, true, true, true, true, true, true, true, true, true, true, true, true, true, false, false, false, false, false, false, false] rfl rfl (one_of HT_.out (by kernel_rfl)) (by decide) (fun K hK => ?_)
              refine Kd.R_append_rows_step (Kd.slice 3 (Kd.int .i64)) (Rr := fun x_ cs_ => x_ = rowT (mI U) a U.length ∧ cs_ = [.slice Aa (rowT (mI U) a U.length).length ca]) (w0 := w) w.heap.size (by rfl) (.tmp 72) (.tmp 74) 22 23 (.slice none 0 0) 24 rfl Try.underlying22 infoRow rfl (by decide) (by omega) (.slice AA (tabT U.length (mI U) a).length cA) (tabT U.length (mI U) a) [rowT (mI U) a U.length] _ 1 1 (fun k_ => True ∧ some k_ ≠ (.slice AO (tabT U.length (jI U) a).length cO : Value).ownBlock) (fun k_ => some k_ ≠ (.slice AO (tabT U.length (jI U) a).length cO : Value).ownBlock ∧ some k_ ≠ (.slice AA (tabT U.length (mI U) a).length cA : Value).ownBlock) rfl rfl (by (repeat (first | exact HAr.out | apply Kd.R_alloc))) (reads_one (by first | (go_simp; done) | (simp; done) | assumption | (go_simp; assumption))) ?aK6 (fun k_ hk => ⟨⟨trivial, hk.1⟩, hk.2⟩) ?aF6 (by (repeat (first | exact HB7.out | exact HBr.out | apply below_alloc))) (below_size (by (repeat (first | exact HB7.out | exact HBr.out | apply below_alloc)))) (by rw [tabT_length]; omega) ?_
              case aK6 => rintro x_ cs_ ⟨rfl, rfl⟩; exact ⟨_, rfl, (by (repeat (first | exact HrA.out | apply Kd.R_alloc)))⟩
              case aF6 => exact fun k_ hk => ⟨trivial, Kd.fresh_ok (by (repeat (first | exact HOr2.out | apply Kd.R_alloc))) k_ hk⟩
              intro v7 w7 ho hb hg hat
              rw [← tabT_succ] at ho
              obtain ⟨A7, c7, rfl⟩ := Kd.R_slice ho
              have HB7 := Aside0.mk hb
              have HA7 := Aside0.mk ho
              have HO7 := Aside0.mk (Kd.R_after (by (repeat (first | exact HOr2.out | apply Kd.R_alloc))) hg hat)
              have HrO7 := Aside0.mk (Kd.R_after (by (repeat (first | exact HrO.out | apply Kd.R_alloc))) hg hat)
              have HV7 := Aside0.mk (Kd.R_after (by (repeat (first | exact HVr.out | apply Kd.R_alloc))) hg hat)
              have hg0 := Kd.R_lt HAr.out
              have HG7 := Aside0.mk (blk_grown (g := g) (o := .cells #[.slice A0 U.length c0, .slice AA (tabT U.length (mI U) a).length cA, .slice AO (tabT U.length (jI U) a).length cO, .slice A1 N.length c1, .int .i64 (0), .int .i64 (0)] 81 (0, 0)) (by (repeat (first | exact HGr.out | refine blk_alloc ?_ _))) hg (Kd.R_ne HAr.out HGr.out (by decide)))
              have HX7 := Aside0.mk (blk_grown (g := gb) (o := .cells #[.slice A0 U.length c0, .slice A1 N.length c1] 28 (0, 0)) (by (repeat (first | exact HXr.out | refine blk_alloc ?_ _))) hg (Kd.R_ne HAr.out HXr.out (by decide)))
              have hcy : w7.cell? ⟨wd.heap.size + 1, 0, none⟩ = some (.slice Ab (rowT (jI U) a U.length).length cb) := grown_cell hg (by first | (go_simp; done) | (simp; done)) (by intro e_; have := hg0 _ e_.symm; simp at this; omega)
              clear ho hb hg hat hg0
              refine hK.out _ _ ⟨(blk_cell HG7.out 1).trans rfl, (blk_cell HG7.out 2).trans rfl⟩ (fun hHeld7 => ?_)
              clear hK K
              (try simp only [Act.put, List.setIfInBounds_toArray, List.set_cons_zero, List.set_cons_succ])
              refine one_ (i := 15) (N := some 82) #[true, true, true, true, true, true, true, true, true, true, true, true, true, true, true, true, false, false, false, false, false, false] rfl rfl (one_of HT_.out (by kernel_rfl)) (by decide) (fun K hK => ?_)
              refine Kd.R_append_rows_step (Kd.slice 3 (Kd.int .i64)) (Rr := fun x_ cs_ => x_ = rowT (jI U) a U.length ∧ cs_ = [.slice Ab (rowT (jI U) a U.length).length cb]) (w0 := w) w.heap.size (by rfl) (.tmp 79) (.tmp 81) 22 23 (.slice none 0 0) 24 rfl Try.underlying22 infoRow rfl (by decide) (by omega) (.slice AO (tabT U.length (jI U) a).length cO) (tabT U.length (jI U) a) [rowT (jI U) a U.length] _ 1 1 (fun k_ => True ∧ some k_ ≠ (.slice A7 (tabT U.length (mI U) (a + 1)).length c7 : Value).ownBlock) (fun k_ => some k_ ≠ (.slice AO (tabT U.length (jI U) a).length cO : Value).ownBlock ∧ some k_ ≠ (.slice A7 (tabT U.length (mI U) (a + 1)).length c7 : Value).ownBlock) rfl rfl (by (repeat (first | exact HO7.out | apply Kd.R_alloc))) (reads_one (by first | (go_simp; done) | (simp; done) | assumption | (go_simp; assumption))) ?aK7 (fun k_ hk => ⟨⟨trivial, hk.2⟩, hk.1⟩) ?aF7 (by (repeat (first | exact HB7.out | exact HBr.out | apply below_alloc))) (below_size (by (repeat (first | exact HB7.out | exact HBr.out | apply below_alloc)))) (by rw [tabT_length]; omega) ?_
              case aK7 => rintro x_ cs_ ⟨rfl, rfl⟩; exact ⟨_, rfl, (by (repeat (first | exact HrO7.out | apply Kd.R_alloc)))⟩
              case aF7 => exact fun k_ hk => ⟨trivial, Kd.fresh_ok (by (repeat (first | exact HA7.out | apply Kd.R_alloc))) k_ hk⟩
              intro v8 w8 ho hb hg hat
              rw [← tabT_succ] at ho
              obtain ⟨A8, c8, rfl⟩ := Kd.R_slice ho
              have HB8 := Aside0.mk hb
              have HO8 := Aside0.mk ho
              have HA8 := Aside0.mk (Kd.R_after (by (repeat (first | exact HA7.out | apply Kd.R_alloc))) hg hat)
              have HV8 := Aside0.mk (Kd.R_after (Kd.R_mono (ok' := fun k_ => (k_ ≠ g ∧ some k_ ≠ (Value.slice A7 (tabT U.length (mI U) (a + 1)).length c7).ownBlock) ∧ some k_ ≠ (Value.slice AO (tabT U.length (jI U) a).length cO).ownBlock) (by (repeat (first | exact HV7.out | apply Kd.R_alloc))) (fun k_ (hk : (k_ ≠ g ∧ some k_ ≠ (Value.slice AO (tabT U.length (jI U) a).length cO).ownBlock) ∧ some k_ ≠ (Value.slice A7 (tabT U.length (mI U) (a + 1)).length c7).ownBlock) => ⟨⟨hk.1.1, hk.2⟩, hk.1.2⟩)) hg hat)
              have HG8 := Aside0.mk (blk_grown (g := g) (o := .cells #[.slice A0 U.length c0, .slice AA (tabT U.length (mI U) a).length cA, .slice AO (tabT U.length (jI U) a).length cO, .slice A1 N.length c1, .int .i64 (0), .int .i64 (0)] 81 (0, 0)) (by (repeat (first | exact HG7.out | refine blk_alloc ?_ _))) hg (Kd.R_ne HO7.out HG7.out (by decide)))
              have HX8 := Aside0.mk (blk_grown (g := gb) (o := .cells #[.slice A0 U.length c0, .slice A1 N.length c1] 28 (0, 0)) (by (repeat (first | exact HX7.out | refine blk_alloc ?_ _))) hg (Kd.R_ne HO7.out HX7.out (by decide)))
              clear ho hb hg hat
              refine hK.out _ _ ⟨(blk_cell HG8.out 1).trans rfl, (blk_cell HG8.out 2).trans rfl⟩ (fun hHeld8 => ?_)
              clear hK K
              (try simp only [Act.put, List.setIfInBounds_toArray, List.set_cons_zero, List.set_cons_succ])
              exact hC ⟨wd.heap.size, wd.heap.size + 1, A7, c7, A8, c8⟩ w8 ⟨HG8.out, HX8.out, HA8.out, HO8.out, HV8.out, HB8.out⟩
          · skip
            refine event_step (w1 := World.alloc (wd) (.cells #[.slice Ab (rowT (jI U) a U.length).length cb] 23)) (v := .slice (some ⟨wd.heap.size, 0, none⟩) 1 1) (by rfl) ?hr8 ?_
            case hr8 => first | (go_simp; done) | (go_simp; rfl)
            refine hK.out _ _ ⟨(blk_cell (blk_alloc HGr.out _) 1).trans rfl, (blk_cell (blk_alloc HGr.out _) 2).trans rfl⟩ (fun hHeld1 => ?_)
            clear hK K
            (try simp only [Act.put, List.setIfInBounds_toArray, List.set_cons_zero, List.set_cons_succ])
            refine one_ (i := 7) (N := some 74) #[true, true, true, true, true, true, true, true, false, true, true, true, true, true, true, false, false, false, false, false, false, false] rfl rfl (one_of HT_.out (by kernel_rfl)) (by decide) (fun K hK => ?_)
            refine event_step (w1 := World.alloc (World.alloc wd (.cells #[.slice Ab (rowT (jI U) a U.length).length cb] 23)) (.cells #[.slice Aa (rowT (mI U) a U.length).length ca] 23)) (v := .slice (some ⟨wd.heap.size + 1, 0, none⟩) 1 1) (by rfl) ?hr9 ?_
            case hr9 => first | (go_simp; done) | (go_simp; rfl)
            refine hK.out _ _ ⟨(blk_cell (blk_alloc (blk_alloc HGr.out _) _) 1).trans rfl, (blk_cell (blk_alloc (blk_alloc HGr.out _) _) 2).trans rfl⟩ (fun hHeld2 => ?_)
            clear hK K
            (try simp only [Act.put, List.setIfInBounds_toArray, List.set_cons_zero, List.set_cons_succ])
            refine one_ (i := 8) (N := some 75) #[true, true, true, true, true, true, true, true, true, true, true, true, true, true, true, false, false, false, false, false, false, false] rfl rfl (one_of HT_.out (by kernel_rfl)) (by decide) (fun K hK => ?_)
            refine Kd.R_append_rows_step (Kd.slice 3 (Kd.int .i64)) (Rr := fun x_ cs_ => x_ = rowT (mI U) a U.length ∧ cs_ = [.slice Aa (rowT (mI U) a U.length).length ca]) (w0 := w) w.heap.size (by rfl) (.tmp 72) (.tmp 74) 22 23 (.slice none 0 0) 24 rfl Try.underlying22 infoRow rfl (by decide) (by omega) (.slice AA (tabT U.length (mI U) a).length cA) (tabT U.length (mI U) a) [rowT (mI U) a U.length] _ 1 1 (fun k_ => True ∧ some k_ ≠ (.slice AO (tabT U.length (jI U) a).length cO : Value).ownBlock) (fun k_ => some k_ ≠ (.slice AO (tabT U.length (jI U) a).length cO : Value).ownBlock ∧ some k_ ≠ (.slice AA (tabT U.length (mI U) a).length cA : Value).ownBlock) rfl rfl (by (repeat (first | exact HAr.out | apply Kd.R_alloc))) (reads_one (by first | (go_simp; done) | (simp; done) | assumption | (go_simp; assumption))) ?aK10 (fun k_ hk => ⟨⟨trivial, hk.1⟩, hk.2⟩) ?aF10 (by (repeat (first | exact HB7.out | exact HBr.out | apply below_alloc))) (below_size (by (repeat (first | exact HB7.out | exact HBr.out | apply below_alloc)))) (by rw [tabT_length]; omega) ?_
            case aK10 => rintro x_ cs_ ⟨rfl, rfl⟩; exact ⟨_, rfl, (by (repeat (first | exact HrA.out | apply Kd.R_alloc)))⟩
            case aF10 => exact fun k_ hk => ⟨trivial, Kd.fresh_ok (by (repeat (first | exact HOr2.out | apply Kd.R_alloc))) k_ hk⟩
            intro v7 w7 ho hb hg hat
            rw [← tabT_succ] at ho
            obtain ⟨A7, c7, rfl⟩ := Kd.R_slice ho
            have HB7 := Aside0.mk hb
            have HA7 := Aside0.mk ho
            have HO7 := Aside0.mk (Kd.R_after (by (repeat (first | exact HOr2.out | apply Kd.R_alloc))) hg hat)
            have HrO7 := Aside0.mk (Kd.R_after (by (repeat (first | exact HrO.out | apply Kd.R_alloc))) hg hat)
            have HV7 := Aside0.mk (Kd.R_after (by (repeat (first | exact HVr.out | apply Kd.R_alloc))) hg hat)
            have hg0 := Kd.R_lt HAr.out
            have HG7 := Aside0.mk (blk_grown (g := g) (o := .cells #[.slice A0 U.length c0, .slice AA (tabT U.length (mI U) a).length cA, .slice AO (tabT U.length (jI U) a).length cO, .slice A1 N.length c1, .int .i64 (0), .int .i64 (0)] 81 (0, 0)) (by (repeat (first | exact HGr.out | refine blk_alloc ?_ _))) hg (Kd.R_ne HAr.out HGr.out (by decide)))
            have HX7 := Aside0.mk (blk_grown (g := gb) (o := .cells #[.slice A0 U.length c0, .slice A1 N.length c1] 28 (0, 0)) (by (repeat (first | exact HXr.out | refine blk_alloc ?_ _))) hg (Kd.R_ne HAr.out HXr.out (by decide)))
            have hcy : w7.cell? ⟨wd.heap.size, 0, none⟩ = some (.slice Ab (rowT (jI U) a U.length).length cb) := grown_cell hg (by first | (go_simp; done) | (simp; done)) (by intro e_; have := hg0 _ e_.symm; simp at this)
            clear ho hb hg hat hg0
            refine hK.out _ _ ⟨(blk_cell HG7.out 1).trans rfl, (blk_cell HG7.out 2).trans rfl⟩ (fun hHeld7 => ?_)
            clear hK K
            (try simp only [Act.put, List.setIfInBounds_toArray, List.set_cons_zero, List.set_cons_succ])
            refine one_ (i := 15) (N := some 82) #[true, true, true, true, true, true, true, true, true, true, true, true, true, true, true, true, false, false, false, false, false, false] rfl rfl (one_of HT_.out (by kernel_rfl)) (by decide) (fun K hK => ?_)
            refine Kd.R_append_rows_step (Kd.slice 3 (Kd.int .i64)) (Rr := fun x_ cs_ => x_ = rowT (jI U) a U.length ∧ cs_ = [.slice Ab (rowT (jI U) a U.length).length cb]) (w0 := w) w.heap.size (by rfl) (.tmp 79) (.tmp 81) 22 23 (.slice none 0 0) 24 rfl Try.underlying22 infoRow rfl (by decide) (by omega) (.slice AO (tabT U.length (jI U) a).length cO) (tabT U.length (jI U) a) [rowT (jI U) a U.length] _ 1 1 (fun k_ => True ∧ some k_ ≠ (.slice A7 (tabT U.length (mI U) (a + 1)).length c7 : Value).ownBlock) (fun k_ => some k_ ≠ (.slice AO (tabT U.length (jI U) a).length cO : Value).ownBlock ∧ some k_ ≠ (.slice A7 (tabT U.length (mI U) (a + 1)).length c7 : Value).ownBlock) rfl rfl (by (repeat (first | exact HO7.out | apply Kd.R_alloc))) (reads_one (by first | (go_simp; done) | (simp; done) | assumption | (go_simp; assumption))) ?aK11 (fun k_ hk => ⟨⟨trivial, hk.2⟩, hk.1⟩) ?aF11 (by (repeat (first | exact HB7.out | exact HBr.out | apply below_alloc))) (below_size (by (repeat (first | exact HB7.out | exact HBr.out | apply below_alloc)))) (by rw [tabT_length]; omega) ?_
            case aK11 => rintro x_ cs_ ⟨rfl, rfl⟩; exact ⟨_, rfl, (by (repeat (first | exact HrO7.out | apply Kd.R_alloc)))⟩
            case aF11 => exact fun k_ hk => ⟨trivial, Kd.fresh_ok (by (repeat (first | exact HA7.out | apply Kd.R_alloc))) k_ hk⟩
            intro v8 w8 ho hb hg hat
            rw [← tabT_succ] at ho
            obtain ⟨A8, c8, rfl⟩ := Kd.R_slice ho
            have HB8 := Aside0.mk hb
            have HO8 := Aside0.mk ho
            have HA8 := Aside0.mk (Kd.R_after (by (repeat (first | exact HA7.out | apply Kd.R_alloc))) hg hat)
            have HV8 := Aside0.mk (Kd.R_after (Kd.R_mono (ok' := fun k_ => (k_ ≠ g ∧ some k_ ≠ (Value.slice A7 (tabT U.length (mI U) (a + 1)).length c7).ownBlock) ∧ some k_ ≠ (Value.slice AO (tabT U.length (jI U) a).length cO).ownBlock) (by (repeat (first | exact HV7.out | apply Kd.R_alloc))) (fun k_ (hk : (k_ ≠ g ∧ some k_ ≠ (Value.slice AO (tabT U.length (jI U) a).length cO).ownBlock) ∧ some k_ ≠ (Value.slice A7 (tabT U.length (mI U) (a + 1)).length c7).ownBlock) => ⟨⟨hk.1.1, hk.2⟩, hk.1.2⟩)) hg hat)
            have HG8 := Aside0.mk (blk_grown (g := g) (o := .cells #[.slice A0 U.length c0, .slice AA (tabT U.length (mI U) a).length cA, .slice AO (tabT U.length (jI U) a).length cO, .slice A1 N.length c1, .int .i64 (0), .int .i64 (0)] 81 (0, 0)) (by (repeat (first | exact HG7.out | refine blk_alloc ?_ _))) hg (Kd.R_ne HO7.out HG7.out (by decide)))
            have HX8 := Aside0.mk (blk_grown (g := gb) (o := .cells #[.slice A0 U.length c0, .slice A1 N.length c1] 28 (0, 0)) (by (repeat (first | exact HX7.out | refine blk_alloc ?_ _))) hg (Kd.R_ne HO7.out HX7.out (by decide)))
            clear ho hb hg hat
            refine hK.out _ _ ⟨(blk_cell HG8.out 1).trans rfl, (blk_cell HG8.out 2).trans rfl⟩ (fun hHeld8 => ?_)
            clear hK K
            (try simp only [Act.put, List.setIfInBounds_toArray, List.set_cons_zero, List.set_cons_succ])
            exact hC ⟨wd.heap.size + 1, wd.heap.size, A7, c7, A8, c8⟩ w8 ⟨HG8.out, HX8.out, HA8.out, HO8.out, HV8.out, HB8.out⟩
          case cont =>
            rintro ⟨x74, x81, A7, c7, A8, c8⟩ w8 ⟨hG8, hX8, hA8, hO8, hV8, hB8⟩
            refine norm_ (by simp only [putAll, Act.put, List.setIfInBounds_toArray, List.set_cons_zero, List.set_cons_succ]; rfl) ?_
            have HG8 := Aside0.mk hG8; clear hG8
            have HX8 := Aside0.mk hX8; clear hX8
            have HA8 := Aside0.mk hA8; clear hA8
            have HO8 := Aside0.mk hO8; clear hO8
            have HV8 := Aside0.mk hV8; clear hV8
            have HB8 := Aside0.mk hB8; clear hB8
            clear HGr HXr HAr HOr2 HVr HBr HrA HrO hHeld hg1 hg2
            refine pure_ (i := 16) (N := some 83) (v := ?_) (a' := ?_) #[true, true, true, true, true, true, true, true, true, true, true, true, true, true, true, true, true, false, false, false, false, false] rfl rfl (any_of HT_.out (by kernel_rfl)) (fun _ _ _ h => h) (Or.inl ⟨by rfl, ?_⟩) ?_ ?_
            rotate_left
            · intro w'; go_simp; with_reducible rfl
            rotate_left
            · simp only [Act.put, List.setIfInBounds_toArray, List.set_cons_zero, List.set_cons_succ, i64_w, i32_w]; rfl
            refine pure_ (i := 17) (N := some 84) (v := ?_) (a' := ?_) #[true, true, true, true, true, true, true, true, true, true, true, true, true, true, true, true, true, true, false, false, false, false] rfl rfl (any_of HT_.out (by kernel_rfl)) (fun _ _ _ h => h) (Or.inl ⟨by rfl, ?_⟩) ?_ ?_
            rotate_left
            · intro w'; go_simp; with_reducible rfl
            rotate_left
            · simp only [Act.put, List.setIfInBounds_toArray, List.set_cons_zero, List.set_cons_succ, i64_w, i32_w]; rfl
            have hs81 : w8.cell? ⟨g, 1, none⟩ = some (.slice AA (tabT U.length (mI U) a).length cA) := (blk_cell HG8.out 1).trans rfl
            have hf81 := blk_frozen HG8.out 1
            refine last_ (i := 18) (N := none) #[true, true, true, true, true, true, true, true, true, true, true, true, true, true, true, true, true, true, true, false, false, false] rfl rfl (one_of HT_.out (by kernel_rfl)) (by decide) (fun K hK => ?_)
            refine skip_ (w1 := w8.setCell ⟨g, 1, none⟩ (.slice A7 (tabT U.length (mI U) (a + 1)).length c7)) (by rfl) rfl ?_ ?_
            · go_simp
            refine hK.out _ _ ?_
            clear hK K
            have HG9 := Aside0.mk (show (w8.setCell ⟨g, 1, none⟩ (.slice A7 (tabT U.length (mI U) (a + 1)).length c7)).heap[g]? = some (.cells #[.slice A0 U.length c0, .slice A7 (tabT U.length (mI U) (a + 1)).length c7, .slice AO (tabT U.length (jI U) a).length cO, .slice A1 N.length c1, .int .i64 (0), .int .i64 (0)] 81 (0, 0)) from blk_put HG8.out 1 _ rfl)
            have HA9 := Aside0.mk (Kd.R_set HA8.out HG8.out (by decide) 1 (.slice A7 (tabT U.length (mI U) (a + 1)).length c7))
            have HO9 := Aside0.mk (Kd.R_set HO8.out HG8.out (by decide) 1 (.slice A7 (tabT U.length (mI U) (a + 1)).length c7))
            have HV9 := Aside0.mk (Kd.R_far (p := ⟨g, 1, none⟩) HV8.out (fun k_ hk => hk.1.1) (.slice A7 (tabT U.length (mI U) (a + 1)).length c7))
            have HX9 := Aside0.mk (blk_far HX8.out (p := ⟨g, 1, none⟩) HNE.out (.slice A7 (tabT U.length (mI U) (a + 1)).length c7))
            have HB9 := Aside0.mk (below_set (j := 1) (v := .slice A7 (tabT U.length (mI U) (a + 1)).length c7) HB8.out HGE.out)
            generalize w8.setCell ⟨g, 1, none⟩ (.slice A7 (tabT U.length (mI U) (a + 1)).length c7) = w9 at HG9 HA9 HO9 HV9 HX9 HB9 ⊢
            clear hs81 hf81 HG8 HA8 HO8 HV8 HX8 HB8
            have hs92 : w9.cell? ⟨g, 2, none⟩ = some (.slice AO (tabT U.length (jI U) a).length cO) := (blk_cell HG9.out 2).trans rfl
            have hf92 := blk_frozen HG9.out 2
            refine pure_ (i := 19) (N := some 85) (v := ?_) (a' := ?_) #[true, true, true, true, true, true, true, true, true, true, true, true, true, true, true, true, true, true, true, true, false, false] rfl rfl (any_of HT_.out (by kernel_rfl)) (fun _ _ _ h => h) (Or.inl ⟨by rfl, ?_⟩) ?_ ?_
            rotate_left
            · intro w'; go_simp; with_reducible rfl
            rotate_left
            · simp only [Act.put, List.setIfInBounds_toArray, List.set_cons_zero, List.set_cons_succ, i64_w, i32_w]; rfl
            refine pure_ (i := 20) (N := some 86) (v := ?_) (a' := ?_) #[true, true, true, true, true, true, true, true, true, true, true, true, true, true, true, true, true, true, true, true, true, false] rfl rfl (any_of HT_.out (by kernel_rfl)) (fun _ _ _ h => h) (Or.inl ⟨by rfl, ?_⟩) ?_ ?_
            rotate_left
            · intro w'; go_simp; with_reducible rfl
            rotate_left
            · simp only [Act.put, List.setIfInBounds_toArray, List.set_cons_zero, List.set_cons_succ, i64_w, i32_w]; rfl
            refine last_ (i := 21) (N := none) #[true, true, true, true, true, true, true, true, true, true, true, true, true, true, true, true, true, true, true, true, true, true] rfl rfl (one_of HT_.out (by kernel_rfl)) (by decide) (fun K hK => ?_)
            refine skip_ (w1 := w9.setCell ⟨g, 2, none⟩ (.slice A8 (tabT U.length (jI U) (a + 1)).length c8)) (by rfl) rfl ?_ ?_
            · go_simp
            refine hK.out _ _ ?_
            clear hK K
            have HG10 := Aside0.mk (show (w9.setCell ⟨g, 2, none⟩ (.slice A8 (tabT U.length (jI U) (a + 1)).length c8)).heap[g]? = some (.cells #[.slice A0 U.length c0, .slice A7 (tabT U.length (mI U) (a + 1)).length c7, .slice A8 (tabT U.length (jI U) (a + 1)).length c8, .slice A1 N.length c1, .int .i64 (0), .int .i64 (0)] 81 (0, 0)) from blk_put HG9.out 2 _ rfl)
            have HA10 := Aside0.mk (Kd.R_set HA9.out HG9.out (by decide) 2 (.slice A8 (tabT U.length (jI U) (a + 1)).length c8))
            have HO10 := Aside0.mk (Kd.R_set HO9.out HG9.out (by decide) 2 (.slice A8 (tabT U.length (jI U) (a + 1)).length c8))
            have HV10 := Aside0.mk (Kd.R_far (p := ⟨g, 2, none⟩) HV9.out (fun k_ hk => hk.1.1) (.slice A8 (tabT U.length (jI U) (a + 1)).length c8))
            have HX10 := Aside0.mk (blk_far HX9.out (p := ⟨g, 2, none⟩) HNE.out (.slice A8 (tabT U.length (jI U) (a + 1)).length c8))
            have HB10 := Aside0.mk (below_set (j := 2) (v := .slice A8 (tabT U.length (jI U) (a + 1)).length c8) HB9.out HGE.out)
            generalize w9.setCell ⟨g, 2, none⟩ (.slice A8 (tabT U.length (jI U) (a + 1)).length c8) = w10 at HG10 HA10 HO10 HV10 HX10 HB10 ⊢
            clear hs92 hf92 HG9 HA9 HO9 HV9 HX9 HB9
            refine done_ (done_of HT_.out (by kernel_rfl)) ?_
            go_wp2
            go_roundg kn
            case measure => omega
            case rel => exact ⟨a + 1, _, _, by first | go_num | (rw [wrap_small (by omega) (by omega)]; go_num), ⟨by have := HK.out; omega⟩, ⟨by have := HLT.out; omega⟩, HG10, HA10, HO10, HX10, ⟨Kd.R_mono HV10.out (fun k_ hk => ⟨⟨hk.1.1, hk.2⟩, hk.1.2⟩)⟩, HB10⟩
    · obtain rfl : a = U.length := by have := HK2.out; omega
      clear hlt
      obtain ⟨AA, cA, eA⟩ := Kd.R_slice HA.out
      obtain ⟨AO, cO, eO⟩ := Kd.R_slice HO.out
      rw [tabT_length] at eA eO
      subst eA eO
      have hlt' : decide (U.length < U.length) = false := by simp
      have hg4 : wr.cell? ⟨g, 4, none⟩ = some (.int .i64 0) := (blk_cell HG.out 4).trans rfl
      have hf4 := blk_frozen HG.out 4
      have hnb : gb ≠ g := HNE.out
      have hnc : g ≠ gb := Ne.symm HNE.out
      have HLE := Aside0.mk (HF.out.least HLB.out)
      go_wp2_with ((go_at_call 106; (with_reducible refine (impl_LeastOf.calls k _ _ U (optI (leastO U)) (leastO U).isSome _ ?s1 ?s2 HLE.out).mono ?_); (case s1 => exact Kd.C_below HR0.out HB.out); (case s2 => assumption); rintro e w' ⟨rfl, ⟨nd, rfl⟩⟩))
      go_loopg [100] (N.length + 1) (fun kq v100 W => ∃ (a : Nat), v100 = .int .i64 a ∧ Aside0 (a + kq = N.length + 1) ∧ Aside0 (a ≤ N.length) ∧ Aside0 (W.heap[g]? = some (.cells #[.slice A0 U.length c0, .slice AA U.length cA, .slice AO U.length cO, .slice A1 N.length c1, .int .i64 (optI (leastO U)), .int .i64 (0)] 81 (0, 0))) ∧ Aside0 (Kd.R (Kd.slice 3 (Kd.int .i64)) 23 W w.heap.size (fun _ => True) (.slice AA U.length cA) (tabI U.length (mI U))) ∧ Aside0 (Kd.R (Kd.slice 3 (Kd.int .i64)) 23 W w.heap.size (fun _ => True) (.slice AO U.length cO) (tabI U.length (jI U))) ∧ Aside0 (U.length ≤ cA ∧ U.length ≤ cO) ∧ Aside0 (W.heap[gb]? = some (.cells #[.slice A0 U.length c0, .slice A1 N.length c1] 28 (0, 0))) ∧ Aside0 (Below w.heap.size w W) ∧ Aside0 (∀ i, i < a → Ok3 U N i))
      case atStart =>
        refine ⟨0, rfl, ⟨by omega⟩, ⟨by omega⟩, ⟨blk_put (blk_drewN HG.out nd) 4 _ rfl⟩, ⟨Kd.R_mono (Kd.R_set (Kd.R_drewN HA.out nd) (blk_drewN HG.out nd) (by decide) 4 (.int .i64 (optI (leastO U)))) (fun _ _ => trivial)⟩, ⟨Kd.R_mono (Kd.R_set (Kd.R_drewN HO.out nd) (blk_drewN HG.out nd) (by decide) 4 (.int .i64 (optI (leastO U)))) (fun _ _ => trivial)⟩, ⟨?_⟩, ⟨blk_far (blk_drewN HX.out nd) HNE.out _⟩, ⟨below_set (pw_below_drewN HB.out nd) HGE.out⟩, ⟨fun i hi => absurd hi (by omega)⟩⟩
        · exact ⟨by have h_ := (Kd.R_reads HA.out); obtain ⟨A_, c_, e_, l_, k_⟩ := h_; rw [tabT_length] at e_ l_; injection e_ with e1 e2 e3; subst e3; exact l_, by have h_ := (Kd.R_reads HO.out); obtain ⟨A_, c_, e_, l_, k_⟩ := h_; rw [tabT_length] at e_ l_; injection e_ with e1 e2 e3; subst e3; exact l_⟩
      case round =>
        clear hg4 hf4 hq0 hq1 HA HO HOr HB HX HG
        obtain ⟨a, rfl, HK3, HK4, HG, HCA, HCO, HCC, HX, HB, HS⟩ := hrel
        cases gk with
        | zero => exact absurd HK3.out (by have := HK4.out; omega)
        | succ kn3 =>
        have hq0 : wr.cell? ⟨gb, 0, none⟩ = some (.slice A0 U.length c0) := (blk_cell HX.out 0).trans rfl
        have hq1 : wr.cell? ⟨gb, 1, none⟩ = some (.slice A1 N.length c1) := (blk_cell HX.out 1).trans rfl
        by_cases hlta : a < N.length
        · have hlta' : decide (a < N.length) = true := decide_eq_true hlta
          have HLT := Aside0.mk hlta
          obtain ⟨adN, eN, hNa⟩ := ints_cell HR1.out a (by omega) (by omega)
          subst eN
          replace hNa := cell_up hNa HB.out rfl
          simp only [Int.toNat_natCast] at hNa
          by_cases c1 : 0 ≤ at1 N a ∧ at1 N a < (U.length : Int)
          · have hA1 := Aside0.mk (show impl_isAnswer.f U (at1 N a) = some true by unfold impl_isAnswer.f; rw [if_pos c1.1]; simp [c1.2])
            obtain ⟨adN', eN', hNb⟩ := ints_cell HR1.out (at1 N a) c1.1 (by have := HL.out; omega)
            cases eN'
            replace hNb := cell_up hNb HB.out rfl
            by_cases c2 : at1 N (at1 N a).toNat = (a : Int)
            · have hc2 : (at1 N (at1 N a).toNat != (a : Int)) = false := by rw [c2]; simp
              obtain ⟨adA, adR, cR, eA, hRa, hRb, hRl⟩ := tab_cell (Kd.R_reads' HCA.out).2.2 (a : Int) (at1 N a) (by omega) (by have := HL.out; omega) c1.1 c1.2
              subst eA
              simp only [Int.toNat_natCast] at hRa hRb
              have hg1 : wr.cell? ⟨g, 1, none⟩ = some (.slice (some adA) U.length cA) := (blk_cell HG.out 1).trans rfl
              have hg4 : wr.cell? ⟨g, 4, none⟩ = some (.int .i64 (optI (leastO U))) := (blk_cell HG.out 4).trans rfl
              have p1 : (0 ≤ at1 N a) = True := eq_true c1.1
              have p2 : (at1 N a < (U.length : Int)) = True := eq_true c1.2
              have p3 : (at1 N a < (N.length : Int)) = True := eq_true (by have := HL.out; omega)
              have p4 : (a < N.length) = True := eq_true hlta
              have p5 : (a < U.length) = True := eq_true (by have := HL.out; omega)
              have C1 := Aside0.mk c1
              have C2 := Aside0.mk c2
              clear c1 c2 hlta
              by_cases c3 : meetO U a (at1 N a).toNat = leastO U
              · have hc3 : (mI U a (at1 N a).toNat != optI (leastO U)) = false := by unfold mI; rw [c3]; simp
                have C3 := Aside0.mk c3
                clear c3
                go_wp2_with fail
                go_quiet ((go_at_call 107; (with_reducible refine (impl_isAnswer.calls _ _ U (at1 N a) true _ ?s1 ?s2 hA1.out).mono ?_); (case s1 => repeat (first | exact Kd.C_below HR0.out HB.out | (refine Kd.C_drewN ?_ _) | (refine Kd.C_drew ?_))); (case s2 => assumption); rintro e w' ⟨rfl, ⟨nd, rfl⟩⟩; (try first | exact ⟨rfl, _, World.drewN_drewN _ _ _⟩ | exact ⟨rfl, _, Eq.trans (World.drewN_drewN _ _ _) (congrArg (World.drewN _) (Nat.add_assoc _ _ _))⟩)))
                go_wp2
                go_roundg kn3
                case measure => omega
                case rel => exact ⟨a + 1, by first | go_num | (rw [wrap_small (by omega) (by have := HLT.out; have := HSM.out; have := HL.out; omega)]; go_num), ⟨by have := HK3.out; omega⟩, ⟨by have := HLT.out; omega⟩, ⟨blk_drewN HG.out _⟩, ⟨Kd.R_drewN HCA.out _⟩, ⟨Kd.R_drewN HCO.out _⟩, HCC, ⟨blk_drewN HX.out _⟩, ⟨pw_below_drewN HB.out _⟩, ⟨fun i hi => by
                  rcases Nat.lt_or_ge i a with h | h
                  · exact HS.out i h
                  · obtain rfl : i = a := by omega
                    exact ⟨C1.out.1, C1.out.2, C2.out, C3.out⟩⟩⟩
              · have hc3 : (mI U a (at1 N a).toNat != optI (leastO U)) = true := by rw [bne_iff_ne]; intro h; exact c3 (optI_inj h)
                have HNO := Aside0.mk (logicB_no3 (U := U) (N := N) (a := a) (by have := HLT.out; have := HL.out; omega) (fun h => c3 h.2.2.2))
                clear c3
                go_wp2_with fail
                go_quiet ((go_at_call 107; (with_reducible refine (impl_isAnswer.calls _ _ U (at1 N a) true _ ?s1 ?s2 hA1.out).mono ?_); (case s1 => repeat (first | exact Kd.C_below HR0.out HB.out | (refine Kd.C_drewN ?_ _) | (refine Kd.C_drew ?_))); (case s2 => assumption); rintro e w' ⟨rfl, ⟨nd, rfl⟩⟩; (try first | exact ⟨rfl, _, World.drewN_drewN _ _ _⟩ | exact ⟨rfl, _, Eq.trans (World.drewN_drewN _ _ _) (congrArg (World.drewN _) (Nat.add_assoc _ _ _))⟩)))
                go_wp2
                go_ret
                exact ⟨pw_below_drewN HB.out _, .inr ⟨HNO.out, rfl⟩⟩
            · have hc2 : (at1 N (at1 N a).toNat != (a : Int)) = true := by rw [bne_iff_ne]; exact c2
              have p1 : (0 ≤ at1 N a) = True := eq_true c1.1
              have p2 : (at1 N a < (U.length : Int)) = True := eq_true c1.2
              have p3 : (at1 N a < (N.length : Int)) = True := eq_true (by have := HL.out; omega)
              have p4 : (a < N.length) = True := eq_true hlta
              have HNO := Aside0.mk (logicB_no3 (U := U) (N := N) (a := a) (by have := HLT.out; have := HL.out; omega) (fun h => c2 h.2.2.1))
              clear c1 c2 hlta
              go_wp2_with fail
              go_quiet ((go_at_call 107; (with_reducible refine (impl_isAnswer.calls _ _ U (at1 N a) true _ ?s1 ?s2 hA1.out).mono ?_); (case s1 => repeat (first | exact Kd.C_below HR0.out HB.out | (refine Kd.C_drewN ?_ _) | (refine Kd.C_drew ?_))); (case s2 => assumption); rintro e w' ⟨rfl, ⟨nd, rfl⟩⟩; (try first | exact ⟨rfl, _, World.drewN_drewN _ _ _⟩ | exact ⟨rfl, _, Eq.trans (World.drewN_drewN _ _ _) (congrArg (World.drewN _) (Nat.add_assoc _ _ _))⟩)))
              go_wp2
              go_ret
              exact ⟨pw_below_drewN HB.out _, .inr ⟨HNO.out, rfl⟩⟩
          · have hA1 := Aside0.mk (show impl_isAnswer.f U (at1 N a) = some false by
              unfold impl_isAnswer.f
              by_cases h : at1 N a ≥ 0
              · rw [if_pos h]; simp; exact Int.not_lt.1 fun h2 => c1 ⟨h, h2⟩
              · rw [if_neg h])
            have p4 : (a < N.length) = True := eq_true hlta
            have HNO := Aside0.mk (logicB_no3 (U := U) (N := N) (a := a) (by have := HLT.out; have := HL.out; omega) (fun h => c1 ⟨h.1, h.2.1⟩))
            clear c1 hlta
            go_wp2_with fail
            go_quiet ((go_at_call 107; (with_reducible refine (impl_isAnswer.calls _ _ U (at1 N a) false _ ?s1 ?s2 hA1.out).mono ?_); (case s1 => repeat (first | exact Kd.C_below HR0.out HB.out | (refine Kd.C_drewN ?_ _) | (refine Kd.C_drew ?_))); (case s2 => assumption); rintro e w' ⟨rfl, ⟨nd, rfl⟩⟩; (try first | exact ⟨rfl, _, World.drewN_drewN _ _ _⟩ | exact ⟨rfl, _, Eq.trans (World.drewN_drewN _ _ _) (congrArg (World.drewN _) (Nat.add_assoc _ _ _))⟩)))
            go_wp2
            go_ret
            exact ⟨pw_below_drewN HB.out _, .inr ⟨HNO.out, rfl⟩⟩
        · have hlta' : decide (a < N.length) = false := decide_eq_false hlta
          obtain rfl : a = N.length := by have := HK4.out; omega
          clear hlta
          have HOrd := Aside0.mk (latticeB_order HLB.out)
          go_wp2_with fail
          go_loopg [140] (U.length + 1) (fun kq v140 W => ∃ (a : Nat), v140 = .int .i64 a ∧ Aside0 (a + kq = U.length + 1) ∧ Aside0 (a ≤ U.length) ∧ Aside0 (W.heap[g]? = some (.cells #[.slice A0 U.length c0, .slice AA U.length cA, .slice AO U.length cO, .slice A1 N.length c1, .int .i64 (optI (leastO U)), .int .i64 (0)] 81 (0, 0))) ∧ Aside0 (Kd.R (Kd.slice 3 (Kd.int .i64)) 23 W w.heap.size (fun _ => True) (.slice AA U.length cA) (tabI U.length (mI U))) ∧ Aside0 (Kd.R (Kd.slice 3 (Kd.int .i64)) 23 W w.heap.size (fun _ => True) (.slice AO U.length cO) (tabI U.length (jI U))) ∧ Aside0 (U.length ≤ cA ∧ U.length ≤ cO) ∧ Aside0 (W.heap[gb]? = some (.cells #[.slice A0 U.length c0, .slice A1 N.length c1] 28 (0, 0))) ∧ Aside0 (Below w.heap.size w W) ∧ Aside0 (∀ i, i < a → ∀ j, j < U.length → Ok5 U N i j))
          case atStart => exact ⟨0, rfl, ⟨by omega⟩, ⟨by omega⟩, HG, HCA, HCO, HCC, HX, HB, ⟨fun i hi => absurd hi (by omega)⟩⟩
          case round =>
            clear hq0 hq1 HG HCA HCO HCC HX HB
            obtain ⟨a, rfl, HK5, HK6, HG, HCA, HCO, HCC, HX, HB, HT⟩ := hrel
            cases gk with
            | zero => exact absurd HK5.out (by have := HK6.out; omega)
            | succ kn4 =>
            have hq0 : wr.cell? ⟨gb, 0, none⟩ = some (.slice A0 U.length c0) := (blk_cell HX.out 0).trans rfl
            have hq1 : wr.cell? ⟨gb, 1, none⟩ = some (.slice A1 N.length c1) := (blk_cell HX.out 1).trans rfl
            by_cases hlta : a < U.length
            · have hlta' : decide (a < U.length) = true := decide_eq_true hlta
              have HLT := Aside0.mk hlta
              have hrow := HOrd.out.row a hlta
              obtain ⟨adU, Ar, cr, eU, hUa, hUl, hUr⟩ := rows_cell HR0.out a (by omega) (by omega)
              subst eU
              simp only [Int.toNat_natCast] at hUa hUl hUr
              rw [hrow] at hUa hUl hUr
              replace hUa := cell_up hUa HB.out rfl
              have HUr := Aside0.mk (Kd.C_below hUr HB.out)
              have p1 : (a < U.length) = True := eq_true hlta
              clear hlta hrow hUr
              go_wp2_with fail
              obtain ⟨wo, rfl⟩ : ∃ wo : World, wo = wr := ⟨_, rfl⟩
              go_loopg [147] (U.length + 1) (fun kj v147 W => ∃ (b m : Nat), v147 = .int .i64 b ∧ Aside0 (b + kj = U.length + 1) ∧ Aside0 (b ≤ U.length) ∧ Aside0 (∀ j, j < b → Ok5 U N a j) ∧ W = wo.drewN m)
              case atStart => exact ⟨0, 0, rfl, ⟨by omega⟩, ⟨by omega⟩, ⟨fun i hi => absurd hi (by omega)⟩, rfl⟩
              case round =>
                obtain ⟨b, m, rfl, HKj, HKj2, HU5, rfl⟩ := hrel
                cases gk with
                | zero => exact absurd HKj.out (by have := HKj2.out; omega)
                | succ kj =>
                by_cases hltb : b < U.length
                · have hltb' : decide (b < U.length) = true := decide_eq_true hltb
                  have HLTb := Aside0.mk hltb
                  have p2 : (b < U.length) = True := eq_true hltb
                  obtain ⟨adR, eR, hRb⟩ := ints_cell HUr.out b (by omega) (by omega)
                  subst eR
                  simp only [Int.toNat_natCast] at hRb
                  have hRb' : wo.cell? (adR.add b) = some (.int .i64 (at2 U a b)) := hRb
                  clear hRb
                  by_cases d1 : leB U a b = true
                  · have hd1 : (at2 U a b == 1) = true := d1
                    obtain ⟨q1, q2, _, _⟩ := HS.out a (by have := HLT.out; have := HL.out; omega)
                    obtain ⟨q3, q4, _, _⟩ := HS.out b (by have := HL.out; omega)
                    obtain ⟨adN, eN, hNa⟩ := ints_cell HR1.out a (by omega) (by have := HLT.out; have := HL.out; omega)
                    subst eN
                    obtain ⟨adN', eN', hNb⟩ := ints_cell HR1.out b (by omega) (by have := HL.out; omega)
                    cases eN'
                    obtain ⟨ad1, ad2, cr2, e1, hM1, hM2, hMl⟩ := mat_cell HR0.out HOrd.out.row (at1 N b) (at1 N a) q3 q4 q1 q2
                    cases e1
                    replace hNa := cell_up hNa HB.out rfl
                    replace hNb := cell_up hNb HB.out rfl
                    replace hM1 := cell_up hM1 HB.out rfl
                    replace hM2 := cell_up hM2 HB.out rfl
                    simp only [Int.toNat_natCast] at hNa hNb
                    have p3 : (0 ≤ at1 N a) = True := eq_true q1
                    have p4 : (at1 N a < (U.length : Int)) = True := eq_true q2
                    have p5 : (0 ≤ at1 N b) = True := eq_true q3
                    have p6 : (at1 N b < (U.length : Int)) = True := eq_true q4
                    have p7 : (a < N.length) = True := eq_true (by have := HLT.out; have := HL.out; omega)
                    have p8 : (b < N.length) = True := eq_true (by have := HL.out; omega)
                    have D1 := Aside0.mk d1
                    clear q1 q2 q3 q4 hltb d1
                    by_cases d2 : leB U (at1 N b).toNat (at1 N a).toNat = true
                    · have hd2 : (at2 U (at1 N b).toNat (at1 N a).toNat != 1) = false := by have h_ : (at2 U (at1 N b).toNat (at1 N a).toNat == 1) = true := d2; simpa [bne] using h_
                      have D2 := Aside0.mk d2
                      clear d2
                      go_wp2_with fail
                      go_quiet (fail)
                      go_wp2
                      go_roundg kj
                      case measure => omega
                      case rel => exact ⟨b + 1, _, by first | go_num | (rw [wrap_small (by omega) (by have := HLTb.out; have := HSM.out; omega)]; go_num), ⟨by have := HKj.out; omega⟩, ⟨by have := HLTb.out; omega⟩, ⟨fun i hi => by
                        rcases Nat.lt_or_ge i b with h | h
                        · exact HU5.out i h
                        · obtain rfl : i = b := by omega
                          exact fun _ => D2.out⟩, rfl⟩
                    · have hd2 : (at2 U (at1 N b).toNat (at1 N a).toNat != 1) = true := by rw [bne_iff_ne]; intro h_; exact d2 (by unfold leB; rw [h_]; rfl)
                      have HNO := Aside0.mk (logicB_no5 (U := U) (N := N) (a := a) (b := b) HLT.out HLTb.out (fun h => d2 (h D1.out)))
                      clear d2
                      go_wp2_with fail
                      go_quiet (fail)
                      go_wp2
                      go_ret
                      exact ⟨by repeat (first | exact HB.out | apply pw_below_drewN | apply below_drew1), .inr ⟨HNO.out, rfl⟩⟩
                  · have hd1 : (at2 U a b == 1) = false := by simpa [leB] using d1
                    have D1 := Aside0.mk d1
                    clear d1 hltb
                    go_wp2_with fail
                    go_quiet (fail)
                    go_wp2
                    go_roundg kj
                    case measure => omega
                    case rel => exact ⟨b + 1, _, by first | go_num | (rw [wrap_small (by omega) (by have := HLTb.out; have := HSM.out; omega)]; go_num), ⟨by have := HKj.out; omega⟩, ⟨by have := HLTb.out; omega⟩, ⟨fun i hi => by
                      rcases Nat.lt_or_ge i b with h | h
                      · exact HU5.out i h
                      · obtain rfl : i = b := by omega
                        exact fun h => absurd h D1.out⟩, rfl⟩
                · have hltb' : decide (b < U.length) = false := decide_eq_false hltb
                  obtain rfl : b = U.length := by have := HKj2.out; omega
                  clear hltb
                  go_wp2_with fail
                  go_roundg kn4
                  case measure => omega
                  case rel => exact ⟨a + 1, by first | go_num | (rw [wrap_small (by omega) (by have := HLT.out; have := HSM.out; omega)]; go_num), ⟨by have := HK5.out; omega⟩, ⟨by have := HLT.out; omega⟩, ⟨blk_drewN HG.out _⟩, ⟨Kd.R_drewN HCA.out _⟩, ⟨Kd.R_drewN HCO.out _⟩, HCC, ⟨blk_drewN HX.out _⟩, ⟨pw_below_drewN HB.out _⟩, ⟨fun i hi => by
                    rcases Nat.lt_or_ge i a with h | h
                    · exact HT.out i h
                    · obtain rfl : i = a := by omega
                      exact HU5.out⟩⟩
            · have hlta' : decide (a < U.length) = false := decide_eq_false hlta
              obtain rfl : a = U.length := by have := HK6.out; omega
              clear hlta
              have HYES := Aside0.mk (logicB_yes (U := U) (N := N) HLB.out HL.out (fun i hi => HS.out i (by have := HL.out; omega)) HT.out)
              have HLg := Aside0.mk (logicB_iff.1 HYES.out)
              obtain ⟨mno, hmno⟩ := HLg.out.least_some
              have hno : optI (leastO U) = (mno : Int) := by rw [hmno]; rfl
              have hmn : mno < U.length := (findN_some hmno).1
              obtain ⟨adN, eN, hNa⟩ := ints_cell HR1.out mno (by omega) (by have := HL.out; omega)
              subst eN
              replace hNa := cell_up hNa HB.out rfl
              simp only [Int.toNat_natCast] at hNa
              rw [hno] at HG
              have hg4 : wr.cell? ⟨g, 4, none⟩ = some (.int .i64 (mno : Int)) := (blk_cell HG.out 4).trans rfl
              have hg5 : wr.cell? ⟨g, 5, none⟩ = some (.int .i64 0) := (blk_cell HG.out 5).trans rfl
              have hf5 := blk_frozen HG.out 5
              have p1 : (mno < N.length) = True := eq_true (by have := HL.out; omega)
              have HNO := Aside0.mk hno
              clear hno hmno hmn
              go_wp2_with fail
              refine start_ (n := 12) (S := (fun w' => w'.cell? ⟨gb, 1, none⟩ = some (.slice (some adN) N.length c1) ∧ w'.cell? ⟨g, 4, none⟩ = some (.int .i64 (mno : Int)) ∧ w'.cell? (adN.add mno) = some (.int .i64 (at1 N mno)))) (ds := [11]) #[false, false, false, false, false, false, false, false, false, false, false, false] (by kernel_rfl) rfl rfl ⟨hq1, hg4, hNa⟩ (fun hHeld => ?_)
              refine with_tabW impl_told.tab34 impl_told.bits34 (fun HT_ HW_ => ?_)
              refine pure_ (i := 0) (N := some 175) (v := ?_) (a' := ?_) #[true, false, false, false, false, false, false, false, false, false, false, false] rfl rfl (any_of HT_.out (by kernel_rfl)) (fun _ _ _ h => h) (Or.inl ⟨by rfl, ?_⟩) ?_ ?_
              rotate_left
              · intro w'; go_simp; with_reducible rfl
              rotate_left
              · simp only [Act.put, List.setIfInBounds_toArray, List.set_cons_zero, List.set_cons_succ, i64_w, i32_w]; rfl
              refine pure_ (i := 1) (N := some 176) (v := ?_) (a' := ?_) #[true, true, false, false, false, false, false, false, false, false, false, false] rfl rfl (any_of HT_.out (by kernel_rfl)) (fun _ _ _ h => h) (Or.inl ⟨by rfl, ?_⟩) ?_ ?_
              rotate_left
              · intro w'; go_simp; with_reducible rfl
              rotate_left
              · simp only [Act.put, List.setIfInBounds_toArray, List.set_cons_zero, List.set_cons_succ, i64_w, i32_w]; rfl
              refine pure_ (i := 3) (N := some 178) (v := ?_) (a' := ?_) #[true, true, false, true, false, false, false, false, false, false, false, false] rfl rfl (any_of HT_.out (by kernel_rfl)) (fun _ _ _ h => h) (Or.inl ⟨by rfl, ?_⟩) ?_ ?_
              rotate_left
              · intro w'; go_simp; with_reducible rfl
              rotate_left
              · simp only [Act.put, List.setIfInBounds_toArray, List.set_cons_zero, List.set_cons_succ, i64_w, i32_w]; rfl
              refine pure_ (i := 4) (N := some 179) (v := ?_) (a' := ?_) #[true, true, false, true, true, false, false, false, false, false, false, false] rfl rfl (any_of HT_.out (by kernel_rfl)) (fun _ _ _ h => h) (Or.inl ⟨by rfl, ?_⟩) ?_ ?_
              rotate_left
              · intro w'; go_simp; with_reducible rfl
              rotate_left
              · simp only [Act.put, List.setIfInBounds_toArray, List.set_cons_zero, List.set_cons_succ, i64_w, i32_w]; rfl
              refine pure_ (i := 5) (N := some 180) (v := ?_) (a' := ?_) #[true, true, false, true, true, true, false, false, false, false, false, false] rfl rfl (any_of HT_.out (by kernel_rfl)) (fun _ _ _ h => h) (Or.inl ⟨by rfl, ?_⟩) ?_ ?_
              rotate_left
              · intro w'; go_simp; with_reducible rfl
              rotate_left
              · simp only [Act.put, List.setIfInBounds_toArray, List.set_cons_zero, List.set_cons_succ, i64_w, i32_w]; rfl
              refine take_ (i := 2) (N := some 177) (v := ?_) (a' := ?_) #[true, true, true, true, true, true, false, false, false, false, false, false] rfl rfl (take_ofW HT_.out HW_.out (by kernel_rfl)) (fun _ _ _ h => h) (Or.inl ⟨by rfl, ?_⟩) hHeld ?_ ?_
              rotate_left
              · rintro w' ⟨s0, s1, s2⟩; go_simp; with_reducible rfl
              rotate_left
              · simp only [Act.put, List.setIfInBounds_toArray, List.set_cons_zero, List.set_cons_succ, i64_w, i32_w]; rfl
              refine take_ (i := 6) (N := some 181) (v := ?_) (a' := ?_) #[true, true, true, true, true, true, true, false, false, false, false, false] rfl rfl (take_ofW HT_.out HW_.out (by kernel_rfl)) (fun _ _ _ h => h) (Or.inl ⟨by rfl, ?_⟩) hHeld ?_ ?_
              rotate_left
              · rintro w' ⟨s0, s1, s2⟩; go_simp; with_reducible rfl
              rotate_left
              · simp only [Act.put, List.setIfInBounds_toArray, List.set_cons_zero, List.set_cons_succ, i64_w, i32_w]; rfl
              refine pure_ (i := 7) (N := some 182) (v := ?_) (a' := ?_) #[true, true, true, true, true, true, true, true, false, false, false, false] rfl rfl (any_of HT_.out (by kernel_rfl)) (fun _ _ _ h => h) (Or.inl ⟨by rfl, ?_⟩) ?_ ?_
              rotate_left
              · intro w'; go_simp; with_reducible rfl
              rotate_left
              · simp only [Act.put, List.setIfInBounds_toArray, List.set_cons_zero, List.set_cons_succ, i64_w, i32_w]; rfl
              refine take_ (i := 8) (N := some 183) (v := ?_) (a' := ?_) #[true, true, true, true, true, true, true, true, true, false, false, false] rfl rfl (take_ofW HT_.out HW_.out (by kernel_rfl)) (fun _ _ _ h => h) (Or.inl ⟨by rfl, ?_⟩) hHeld ?_ ?_
              rotate_left
              · rintro w' ⟨s0, s1, s2⟩; go_simp; with_reducible rfl
              rotate_left
              · simp only [Act.put, List.setIfInBounds_toArray, List.set_cons_zero, List.set_cons_succ, i64_w, i32_w]; rfl
              refine pure_ (i := 9) (N := some 184) (v := ?_) (a' := ?_) #[true, true, true, true, true, true, true, true, true, true, false, false] rfl rfl (any_of HT_.out (by kernel_rfl)) (fun _ _ _ h => h) (Or.inl ⟨by rfl, ?_⟩) ?_ ?_
              rotate_left
              · intro w'; go_simp; with_reducible rfl
              rotate_left
              · simp only [Act.put, List.setIfInBounds_toArray, List.set_cons_zero, List.set_cons_succ, i64_w, i32_w]; rfl
              refine pure_ (i := 10) (N := some 185) (v := ?_) (a' := ?_) #[true, true, true, true, true, true, true, true, true, true, true, false] rfl rfl (any_of HT_.out (by kernel_rfl)) (fun _ _ _ h => h) (Or.inl ⟨by rfl, ?_⟩) ?_ ?_
              rotate_left
              · intro w'; go_simp; with_reducible rfl
              rotate_left
              · simp only [Act.put, List.setIfInBounds_toArray, List.set_cons_zero, List.set_cons_succ, i64_w, i32_w]; rfl
              refine last_ (i := 11) (N := none) #[true, true, true, true, true, true, true, true, true, true, true, true] rfl rfl (one_of HT_.out (by kernel_rfl)) (by decide) (fun K hK => ?_)
              refine skip_ (w1 := World.setCell wr.drew ⟨g, 5, none⟩ (.int .i64 (at1 N mno))) (by rfl) rfl ?_ ?_
              · go_simp
              refine hK.out _ _ ?_
              clear hK K
              refine done_ (done_of HT_.out (by kernel_rfl)) ?_
              go_wp2
              go_ret
              refine ⟨below_set (below_drew1 HB.out) HGE.out, .inl ⟨HYES.out, g, rfl, HGE.out, ?_⟩⟩
              unfold AlgOf; rw [HNO.out, Int.toNat_natCast]
              have hb5 : Below w.heap.size w (World.setCell wr.drew ⟨g, 5, none⟩ (.int .i64 (at1 N mno))) := below_set (below_drew1 HB.out) HGE.out
              have hA5 := (Kd.R_reads' (Kd.R_set (Kd.R_drew HCA.out) (blk_drew HG.out) (by decide) 5 (.int .i64 (at1 N mno)))).2.2
              have hO5 := (Kd.R_reads' (Kd.R_set (Kd.R_drew HCO.out) (blk_drew HG.out) (by decide) 5 (.int .i64 (at1 N mno)))).2.2
              refine ⟨_, c0, AA, cA, AO, cO, _, c1, ?_, ⟨hc0, by rw [tabI_length]; exact HCC.out.1, by rw [tabI_length]; exact HCC.out.2, hc1⟩, Kd.C_below HR0.out hb5, hA5, hO5, Kd.C_below HR1.out hb5⟩
              rw [tabI_length, tabI_length]; exact blk_put (blk_drew HG.out) 5 _ rfl
theorem told_calls (k : Nat) (A0 : Option Addr) (c0 : Nat) (U : List (List Int)) (A1 : Option Addr) (c1 : Nat) (N : List Int) (w : World)
    (hr0 : Kd.C (Kd.slice 3 (Kd.int .i64)) w A0 U.length U) (hc0 : U.length ≤ c0) (hr1 : Kd.C (Kd.int .i64) w A1 N.length N) (hc1 : N.length ≤ c1) (hF : ToldFacts k U) : Calls Try.prog 57 #[.agg #[.slice A0 U.length c0, .slice A1 N.length c1]] w (ToldPost U N w) := by
  cases hlat : latticeB U with
  | false =>
    refine (told_flat k A0 c0 U A1 c1 N w hr0 hc0 hr1 hc1 (hlat ▸ hF.lat)).mono fun e w' h => ⟨h.2, .inr ⟨?_, h.1⟩⟩
    unfold logicB; rw [hlat]; rfl
  | true =>
    by_cases hl : N.length = U.length
    · exact told_walk k A0 c0 U A1 c1 N w hr0 hc0 hr1 hc1 hF hl hlat
    · refine (told_long k A0 c0 U A1 c1 N w hr0 hc0 hr1 hc1 (hlat ▸ hF.lat) hl).mono fun e w' h => ⟨h.2, .inr ⟨?_, h.1⟩⟩
      rw [Bool.eq_false_iff]
      intro h2
      exact hl (logicB_iff.1 h2).len
end Go.Proofs.Ythideghgdmokkaa.Print
end
