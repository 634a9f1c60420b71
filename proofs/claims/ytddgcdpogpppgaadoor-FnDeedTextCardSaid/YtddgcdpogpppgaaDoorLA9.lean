/- Part 9 of what is common to several claims of this seat: XL. -/
import Derived.Test.YtddgcdpogpppgaaDoorLA8
import Derived.Below
import Derived.Deep.Draws
import Derived.Deep.AppendLies
import Derived.Maps.AppendAt
import Derived.OwnWalk
import Derived.Laws.BytesArg
import Derived.Laws.MakeOwn
import Derived.Laws.OwnMore
import Derived.Deep.OwnRows
import Derived.Tactics
import Derived.Lib.ConvBytes
import Derived.Laws.Slices
import Derived.WalkKit
import Derived.KernelRfl
import Derived.RowKit3
import Derived.Deep.LoopGhost
import Derived.Deep.QuietTactic
import Derived.BigQuiet
import Derived.WideLaws
import Derived.Deep.DeepCutAuto
import Derived.Deep.CutBlock
import Derived.Deep.RegionHeld3
import Derived.Laws.Rows
import Derived.Lib.AppendStr
import Derived.ArgAppend
import Derived.Laws.IdiomCopy
import Derived.RowKit
import Derived.OrdersHeld
import Derived.Laws.BitsLemmas
import Derived.Laws.StructEq
import Derived.Test.YtddgcdpogpppgaaDoorProg
import Derived.Lib.ItoaNum
import Derived.Lib.Strings
import Derived.Shelf.Utf8.RuneCount
import Derived.Shelf.Strconv.Atoi
import Derived.Shelf.Strconv.Itoa0
import Derived.Shelf.Strconv.Itoa1
import Derived.Shelf.LaysM
import Derived.Shelf.Strconv.Itoa2
import Derived.Shelf.Strconv.Itoa3
import Derived.Shelf.Strconv.AtoiErrFast
import Derived.Shelf.Strconv.ParseIntEmpty
import Derived.Shelf.Strconv.AtoiFail
import Derived.Shelf.Strconv.Clone
import Derived.Shelf.Strconv.SyntaxError
import Derived.Shelf.LaysC
import Derived.Shelf.Strconv.ToError
import Derived.Shelf.Strconv.Lower
import Derived.Shelf.Strconv.ParseUint10
import Derived.Shelf.Strconv.ParseUint10Empty
import Derived.Shelf.Strconv.ParseUint10Any
import Derived.Shelf.Strconv.ParseInt10
import Derived.Shelf.Strconv.AtoiLong
import Derived.Shelf.Strconv.AtoiInnerAll
import Derived.Shelf.Strconv.RangeError
import Derived.Shelf.Strconv.ToErrorRange
import Derived.Shelf.Strconv.AtoiAll
import Derived.Shelf.Strconv.ErrVarAll
import Derived.Shelf.Strings.Search1
import Derived.Shelf.Strings.Search2
import Derived.Shelf.Strings.Search3
import Derived.Shelf.Strings.Cut
import Derived.Shelf.Strings.Count
import Derived.Shelf.Strings.Shaped
import Derived.Shelf.Strings.Split
import Derived.Shelf.Strings.SplitShaped
import Derived.Shelf.Unicode.Decode
import Derived.Shelf.Strings.RuneCount
import Derived.Shelf.Strings.Explode
import Derived.Shelf.Unicode.DecodeSlow
import Derived.Shelf.Unicode.DecodeAny
import Derived.Shelf.Slices.Turned
import Derived.ProofKit
import Derived.OpenShut
import Derived.LaidMore
import Derived.Lay
import Derived.ChangeVars
import Derived.Lib.LaidU8
import Derived.Lib.SmallJoins
import Derived.Deep.DeepHandedRow
import Derived.Lib.SplitLaws
import Derived.Lib.SlicesS
import Derived.Lib.AtoiAll
import Derived.Lib.IndexBytes
import Derived.LaidLaws
set_option linter.all false
section
namespace Go.Proofs.YtddgcdpogpppgaaDoor.Print
open Go.RowKit Go.Proofs.YtddgcdpogpppgaaDoorW.PrintWords Go.Proofs.YtddgcdpogpppgaaDoorW.PrintLast Go.Proofs.YtddgcdpogpppgaaDoorW.PrintMore
section
attribute [local go_sem] max2_int min2_int max_two min_two max_three min_three max_four min_four
mutual
def impl_OrderOk.j0 : Nat → List (List Int) → Int → Bool → Option (Bool)
 | 0, _, _, _ => none
 | k + 1, x0, x3, x18 => if x18 = true then (some false) else (impl_OrderOk.l0 k x0 x3 x0 (x0.length : Int) 0)
def impl_OrderOk.l0 : Nat → List (List Int) → Int → List (List Int) → Int → Int → Option (Bool)
 | 0, _, _, _, _, _ => none
 | k + 1, x0, x3, x19, x20, x21 => if x21 < x20 then (if 0 ≤ x21 then (if x21 < (x19.length : Int) then (if ((rd_L5 x19 x21).length : Int) = x3 then (if x21 < ((rd_L5 x19 x21).length : Int) then (impl_OrderOk.j2 k x0 x3 x21 (rd_L5 x19 x21) x19 x20 x21 ((rd (rd_L5 x19 x21) x21) != 1)) else (none)) else (impl_OrderOk.j2 k x0 x3 x21 (rd_L5 x19 x21) x19 x20 x21 true)) else (none)) else (none)) else (impl_OrderOk.l2 k x0 x3 x3 0)
def impl_OrderOk.j2 : Nat → List (List Int) → Int → Int → List Int → List (List Int) → Int → Int → Bool → Option (Bool)
 | 0, _, _, _, _, _, _, _, _ => none
 | k + 1, x0, x3, x4, x5, x19, x20, x21, x36 => if x36 = true then (some false) else (impl_OrderOk.l1 k x0 x3 x4 x19 x20 x21 x5 (x5.length : Int) 0)
def impl_OrderOk.l1 : Nat → List (List Int) → Int → Int → List (List Int) → Int → Int → List Int → Int → Int → Option (Bool)
 | 0, _, _, _, _, _, _, _, _, _ => none
 | k + 1, x0, x3, x4, x19, x20, x21, x37, x38, x39 => if x39 < x38 then (if 0 ≤ x39 then (if x39 < (x37.length : Int) then (if (rd x37 x39) = 0 then (impl_OrderOk.j4 k x0 x3 x4 x39 (rd x37 x39) x19 x20 x21 x37 x38 x39 false) else (impl_OrderOk.j4 k x0 x3 x4 x39 (rd x37 x39) x19 x20 x21 x37 x38 x39 ((rd x37 x39) != 1))) else (none)) else (none)) else (impl_OrderOk.l0 k x0 x3 x19 x20 (wrap64 (x21 + 1)))
def impl_OrderOk.j4 : Nat → List (List Int) → Int → Int → Int → Int → List (List Int) → Int → Int → List Int → Int → Int → Bool → Option (Bool)
 | 0, _, _, _, _, _, _, _, _, _, _, _, _ => none
 | k + 1, x0, x3, x4, x6, x7, x19, x20, x21, x37, x38, x39, x49 => if x49 = true then (some false) else (if 0 ≤ x6 then (if x6 < (x0.length : Int) then (if ((rd_L5 x0 x6).length : Int) = x3 then (if x7 = 1 then (if x4 = x6 then (impl_OrderOk.l1 k x0 x3 x4 x19 x20 x21 x37 x38 (wrap64 (x39 + 1))) else (if 0 ≤ x4 then (if x4 < ((rd_L5 x0 x6).length : Int) then (if (rd (rd_L5 x0 x6) x4) = 1 then (some false) else (impl_OrderOk.l1 k x0 x3 x4 x19 x20 x21 x37 x38 (wrap64 (x39 + 1)))) else (none)) else (none))) else (impl_OrderOk.l1 k x0 x3 x4 x19 x20 x21 x37 x38 (wrap64 (x39 + 1)))) else (some false)) else (none)) else (none))
def impl_OrderOk.l2 : Nat → List (List Int) → Int → Int → Int → Option (Bool)
 | 0, _, _, _, _ => none
 | k + 1, x0, x3, x78, x79 => if x79 < x78 then (impl_OrderOk.l3 k x0 x3 x79 x78 x79 x3 0) else (some true)
def impl_OrderOk.l3 : Nat → List (List Int) → Int → Int → Int → Int → Int → Int → Option (Bool)
 | 0, _, _, _, _, _, _, _ => none
 | k + 1, x0, x3, x8, x78, x79, x82, x83 => if x83 < x82 then (impl_OrderOk.l4 k x0 x3 x8 x83 x78 x79 x82 x83 x3 0) else (impl_OrderOk.l2 k x0 x3 x78 (wrap64 (x79 + 1)))
def impl_OrderOk.l4 : Nat → List (List Int) → Int → Int → Int → Int → Int → Int → Int → Int → Int → Option (Bool)
 | 0, _, _, _, _, _, _, _, _, _, _ => none
 | k + 1, x0, x3, x8, x9, x78, x79, x82, x83, x86, x87 => if x87 < x86 then (if 0 ≤ x8 then (if x8 < (x0.length : Int) then (if 0 ≤ x9 then (if x9 < ((rd_L5 x0 x8).length : Int) then (if (rd (rd_L5 x0 x8) x9) = 1 then (if x9 < (x0.length : Int) then (if 0 ≤ x87 then (if x87 < ((rd_L5 x0 x9).length : Int) then (if (rd (rd_L5 x0 x9) x87) = 1 then (if x87 < ((rd_L5 x0 x8).length : Int) then (if (rd (rd_L5 x0 x8) x87) = 1 then (impl_OrderOk.l4 k x0 x3 x8 x9 x78 x79 x82 x83 x86 (wrap64 (x87 + 1))) else (some false)) else (none)) else (impl_OrderOk.l4 k x0 x3 x8 x9 x78 x79 x82 x83 x86 (wrap64 (x87 + 1)))) else (none)) else (none)) else (none)) else (impl_OrderOk.l4 k x0 x3 x8 x9 x78 x79 x82 x83 x86 (wrap64 (x87 + 1)))) else (none)) else (none)) else (none)) else (none)) else (impl_OrderOk.l3 k x0 x3 x8 x78 x79 x82 (wrap64 (x83 + 1)))
end
def impl_OrderOk.f (k : Nat) (l0 : List (List Int)) : Option (Bool) := if (l0.length : Int) < 1 then (impl_OrderOk.j0 k l0 (l0.length : Int) true) else (impl_OrderOk.j0 k l0 (l0.length : Int) (decide ((l0.length : Int) > 12)))
theorem impl_OrderOk.mono_l : ∀ k, (∀ y0 y1 y2, LeO (impl_OrderOk.j0 k y0 y1 y2) (impl_OrderOk.j0 (k + 1) y0 y1 y2)) ∧ (∀ y0 y1 y2 y3 y4, LeO (impl_OrderOk.l0 k y0 y1 y2 y3 y4) (impl_OrderOk.l0 (k + 1) y0 y1 y2 y3 y4)) ∧ (∀ y0 y1 y2 y3 y4 y5 y6 y7, LeO (impl_OrderOk.j2 k y0 y1 y2 y3 y4 y5 y6 y7) (impl_OrderOk.j2 (k + 1) y0 y1 y2 y3 y4 y5 y6 y7)) ∧ (∀ y0 y1 y2 y3 y4 y5 y6 y7 y8, LeO (impl_OrderOk.l1 k y0 y1 y2 y3 y4 y5 y6 y7 y8) (impl_OrderOk.l1 (k + 1) y0 y1 y2 y3 y4 y5 y6 y7 y8)) ∧ (∀ y0 y1 y2 y3 y4 y5 y6 y7 y8 y9 y10 y11, LeO (impl_OrderOk.j4 k y0 y1 y2 y3 y4 y5 y6 y7 y8 y9 y10 y11) (impl_OrderOk.j4 (k + 1) y0 y1 y2 y3 y4 y5 y6 y7 y8 y9 y10 y11)) ∧ (∀ y0 y1 y2 y3, LeO (impl_OrderOk.l2 k y0 y1 y2 y3) (impl_OrderOk.l2 (k + 1) y0 y1 y2 y3)) ∧ (∀ y0 y1 y2 y3 y4 y5 y6, LeO (impl_OrderOk.l3 k y0 y1 y2 y3 y4 y5 y6) (impl_OrderOk.l3 (k + 1) y0 y1 y2 y3 y4 y5 y6)) ∧ (∀ y0 y1 y2 y3 y4 y5 y6 y7 y8 y9, LeO (impl_OrderOk.l4 k y0 y1 y2 y3 y4 y5 y6 y7 y8 y9) (impl_OrderOk.l4 (k + 1) y0 y1 y2 y3 y4 y5 y6 y7 y8 y9))
 | 0 => ⟨fun _ _ _ r h => by simp [impl_OrderOk.j0] at h, fun _ _ _ _ _ r h => by simp [impl_OrderOk.l0] at h, fun _ _ _ _ _ _ _ _ r h => by simp [impl_OrderOk.j2] at h, fun _ _ _ _ _ _ _ _ _ r h => by simp [impl_OrderOk.l1] at h, fun _ _ _ _ _ _ _ _ _ _ _ _ r h => by simp [impl_OrderOk.j4] at h, fun _ _ _ _ r h => by simp [impl_OrderOk.l2] at h, fun _ _ _ _ _ _ _ r h => by simp [impl_OrderOk.l3] at h, fun _ _ _ _ _ _ _ _ _ _ r h => by simp [impl_OrderOk.l4] at h⟩
 | k + 1 => by
  obtain ⟨ih0, ih1, ih2, ih3, ih4, ih5, ih6, ih7⟩ := impl_OrderOk.mono_l k
  refine ⟨?_, ?_, ?_, ?_, ?_, ?_, ?_, ?_⟩
  ·intro y0 y1 y2
   unfold impl_OrderOk.j0
   repeat' first
   | (with_reducible exact ih0 _ _ _)
   | (with_reducible exact ih1 _ _ _ _ _)
   | (with_reducible exact ih2 _ _ _ _ _ _ _ _)
   | (with_reducible exact ih3 _ _ _ _ _ _ _ _ _)
   | (with_reducible exact ih4 _ _ _ _ _ _ _ _ _ _ _ _)
   | (with_reducible exact ih5 _ _ _ _)
   | (with_reducible exact ih6 _ _ _ _ _ _ _)
   | (with_reducible exact ih7 _ _ _ _ _ _ _ _ _ _)
   | (with_reducible exact LeO.refl _)
   | (with_reducible exact LeO.none _)
   | (with_reducible refine LeO.ite ?_ ?_)
   | (with_reducible refine LeO.bind ?_ (fun _ => ?_))
   | exact ih0 _ _ _
   | exact ih1 _ _ _ _ _
   | exact ih2 _ _ _ _ _ _ _ _
   | exact ih3 _ _ _ _ _ _ _ _ _
   | exact ih4 _ _ _ _ _ _ _ _ _ _ _ _
   | exact ih5 _ _ _ _
   | exact ih6 _ _ _ _ _ _ _
   | exact ih7 _ _ _ _ _ _ _ _ _ _
   | exact LeO.none _
   | refine LeO.ite ?_ ?_
   | refine LeO.bind ?_ (fun _ => ?_)
  ·intro y0 y1 y2 y3 y4
   unfold impl_OrderOk.l0
   repeat' first
   | (with_reducible exact ih0 _ _ _)
   | (with_reducible exact ih1 _ _ _ _ _)
   | (with_reducible exact ih2 _ _ _ _ _ _ _ _)
   | (with_reducible exact ih3 _ _ _ _ _ _ _ _ _)
   | (with_reducible exact ih4 _ _ _ _ _ _ _ _ _ _ _ _)
   | (with_reducible exact ih5 _ _ _ _)
   | (with_reducible exact ih6 _ _ _ _ _ _ _)
   | (with_reducible exact ih7 _ _ _ _ _ _ _ _ _ _)
   | (with_reducible exact LeO.refl _)
   | (with_reducible exact LeO.none _)
   | (with_reducible refine LeO.ite ?_ ?_)
   | (with_reducible refine LeO.bind ?_ (fun _ => ?_))
   | exact ih0 _ _ _
   | exact ih1 _ _ _ _ _
   | exact ih2 _ _ _ _ _ _ _ _
   | exact ih3 _ _ _ _ _ _ _ _ _
   | exact ih4 _ _ _ _ _ _ _ _ _ _ _ _
   | exact ih5 _ _ _ _
   | exact ih6 _ _ _ _ _ _ _
   | exact ih7 _ _ _ _ _ _ _ _ _ _
   | exact LeO.none _
   | refine LeO.ite ?_ ?_
   | refine LeO.bind ?_ (fun _ => ?_)
  ·intro y0 y1 y2 y3 y4 y5 y6 y7
   unfold impl_OrderOk.j2
   repeat' first
   | (with_reducible exact ih0 _ _ _)
   | (with_reducible exact ih1 _ _ _ _ _)
   | (with_reducible exact ih2 _ _ _ _ _ _ _ _)
   | (with_reducible exact ih3 _ _ _ _ _ _ _ _ _)
   | (with_reducible exact ih4 _ _ _ _ _ _ _ _ _ _ _ _)
   | (with_reducible exact ih5 _ _ _ _)
   | (with_reducible exact ih6 _ _ _ _ _ _ _)
   | (with_reducible exact ih7 _ _ _ _ _ _ _ _ _ _)
   | (with_reducible exact LeO.refl _)
   | (with_reducible exact LeO.none _)
   | (with_reducible refine LeO.ite ?_ ?_)
   | (with_reducible refine LeO.bind ?_ (fun _ => ?_))
   | exact ih0 _ _ _
   | exact ih1 _ _ _ _ _
   | exact ih2 _ _ _ _ _ _ _ _
   | exact ih3 _ _ _ _ _ _ _ _ _
   | exact ih4 _ _ _ _ _ _ _ _ _ _ _ _
   | exact ih5 _ _ _ _
   | exact ih6 _ _ _ _ _ _ _
   | exact ih7 _ _ _ _ _ _ _ _ _ _
   | exact LeO.none _
   | refine LeO.ite ?_ ?_
   | refine LeO.bind ?_ (fun _ => ?_)
  ·intro y0 y1 y2 y3 y4 y5 y6 y7 y8
   unfold impl_OrderOk.l1
   repeat' first
   | (with_reducible exact ih0 _ _ _)
   | (with_reducible exact ih1 _ _ _ _ _)
   | (with_reducible exact ih2 _ _ _ _ _ _ _ _)
   | (with_reducible exact ih3 _ _ _ _ _ _ _ _ _)
   | (with_reducible exact ih4 _ _ _ _ _ _ _ _ _ _ _ _)
   | (with_reducible exact ih5 _ _ _ _)
   | (with_reducible exact ih6 _ _ _ _ _ _ _)
   | (with_reducible exact ih7 _ _ _ _ _ _ _ _ _ _)
   | (with_reducible exact LeO.refl _)
   | (with_reducible exact LeO.none _)
   | (with_reducible refine LeO.ite ?_ ?_)
   | (with_reducible refine LeO.bind ?_ (fun _ => ?_))
   | exact ih0 _ _ _
   | exact ih1 _ _ _ _ _
   | exact ih2 _ _ _ _ _ _ _ _
   | exact ih3 _ _ _ _ _ _ _ _ _
   | exact ih4 _ _ _ _ _ _ _ _ _ _ _ _
   | exact ih5 _ _ _ _
   | exact ih6 _ _ _ _ _ _ _
   | exact ih7 _ _ _ _ _ _ _ _ _ _
   | exact LeO.none _
   | refine LeO.ite ?_ ?_
   | refine LeO.bind ?_ (fun _ => ?_)
  ·intro y0 y1 y2 y3 y4 y5 y6 y7 y8 y9 y10 y11
   unfold impl_OrderOk.j4
   repeat' first
   | (with_reducible exact ih0 _ _ _)
   | (with_reducible exact ih1 _ _ _ _ _)
   | (with_reducible exact ih2 _ _ _ _ _ _ _ _)
   | (with_reducible exact ih3 _ _ _ _ _ _ _ _ _)
   | (with_reducible exact ih4 _ _ _ _ _ _ _ _ _ _ _ _)
   | (with_reducible exact ih5 _ _ _ _)
   | (with_reducible exact ih6 _ _ _ _ _ _ _)
   | (with_reducible exact ih7 _ _ _ _ _ _ _ _ _ _)
   | (with_reducible exact LeO.refl _)
   | (with_reducible exact LeO.none _)
   | (with_reducible refine LeO.ite ?_ ?_)
   | (with_reducible refine LeO.bind ?_ (fun _ => ?_))
   | exact ih0 _ _ _
   | exact ih1 _ _ _ _ _
   | exact ih2 _ _ _ _ _ _ _ _
   | exact ih3 _ _ _ _ _ _ _ _ _
   | exact ih4 _ _ _ _ _ _ _ _ _ _ _ _
   | exact ih5 _ _ _ _
   | exact ih6 _ _ _ _ _ _ _
   | exact ih7 _ _ _ _ _ _ _ _ _ _
   | exact LeO.none _
   | refine LeO.ite ?_ ?_
   | refine LeO.bind ?_ (fun _ => ?_)
  ·intro y0 y1 y2 y3
   unfold impl_OrderOk.l2
   repeat' first
   | (with_reducible exact ih0 _ _ _)
   | (with_reducible exact ih1 _ _ _ _ _)
   | (with_reducible exact ih2 _ _ _ _ _ _ _ _)
   | (with_reducible exact ih3 _ _ _ _ _ _ _ _ _)
   | (with_reducible exact ih4 _ _ _ _ _ _ _ _ _ _ _ _)
   | (with_reducible exact ih5 _ _ _ _)
   | (with_reducible exact ih6 _ _ _ _ _ _ _)
   | (with_reducible exact ih7 _ _ _ _ _ _ _ _ _ _)
   | (with_reducible exact LeO.refl _)
   | (with_reducible exact LeO.none _)
   | (with_reducible refine LeO.ite ?_ ?_)
   | (with_reducible refine LeO.bind ?_ (fun _ => ?_))
   | exact ih0 _ _ _
   | exact ih1 _ _ _ _ _
   | exact ih2 _ _ _ _ _ _ _ _
   | exact ih3 _ _ _ _ _ _ _ _ _
   | exact ih4 _ _ _ _ _ _ _ _ _ _ _ _
   | exact ih5 _ _ _ _
   | exact ih6 _ _ _ _ _ _ _
   | exact ih7 _ _ _ _ _ _ _ _ _ _
   | exact LeO.none _
   | refine LeO.ite ?_ ?_
   | refine LeO.bind ?_ (fun _ => ?_)
  ·intro y0 y1 y2 y3 y4 y5 y6
   unfold impl_OrderOk.l3
   repeat' first
   | (with_reducible exact ih0 _ _ _)
   | (with_reducible exact ih1 _ _ _ _ _)
   | (with_reducible exact ih2 _ _ _ _ _ _ _ _)
   | (with_reducible exact ih3 _ _ _ _ _ _ _ _ _)
   | (with_reducible exact ih4 _ _ _ _ _ _ _ _ _ _ _ _)
   | (with_reducible exact ih5 _ _ _ _)
   | (with_reducible exact ih6 _ _ _ _ _ _ _)
   | (with_reducible exact ih7 _ _ _ _ _ _ _ _ _ _)
   | (with_reducible exact LeO.refl _)
   | (with_reducible exact LeO.none _)
   | (with_reducible refine LeO.ite ?_ ?_)
   | (with_reducible refine LeO.bind ?_ (fun _ => ?_))
   | exact ih0 _ _ _
   | exact ih1 _ _ _ _ _
   | exact ih2 _ _ _ _ _ _ _ _
   | exact ih3 _ _ _ _ _ _ _ _ _
   | exact ih4 _ _ _ _ _ _ _ _ _ _ _ _
   | exact ih5 _ _ _ _
   | exact ih6 _ _ _ _ _ _ _
   | exact ih7 _ _ _ _ _ _ _ _ _ _
   | exact LeO.none _
   | refine LeO.ite ?_ ?_
   | refine LeO.bind ?_ (fun _ => ?_)
  ·intro y0 y1 y2 y3 y4 y5 y6 y7 y8 y9
   unfold impl_OrderOk.l4
   repeat' first
   | (with_reducible exact ih0 _ _ _)
   | (with_reducible exact ih1 _ _ _ _ _)
   | (with_reducible exact ih2 _ _ _ _ _ _ _ _)
   | (with_reducible exact ih3 _ _ _ _ _ _ _ _ _)
   | (with_reducible exact ih4 _ _ _ _ _ _ _ _ _ _ _ _)
   | (with_reducible exact ih5 _ _ _ _)
   | (with_reducible exact ih6 _ _ _ _ _ _ _)
   | (with_reducible exact ih7 _ _ _ _ _ _ _ _ _ _)
   | (with_reducible exact LeO.refl _)
   | (with_reducible exact LeO.none _)
   | (with_reducible refine LeO.ite ?_ ?_)
   | (with_reducible refine LeO.bind ?_ (fun _ => ?_))
   | exact ih0 _ _ _
   | exact ih1 _ _ _ _ _
   | exact ih2 _ _ _ _ _ _ _ _
   | exact ih3 _ _ _ _ _ _ _ _ _
   | exact ih4 _ _ _ _ _ _ _ _ _ _ _ _
   | exact ih5 _ _ _ _
   | exact ih6 _ _ _ _ _ _ _
   | exact ih7 _ _ _ _ _ _ _ _ _ _
   | exact LeO.none _
   | refine LeO.ite ?_ ?_
   | refine LeO.bind ?_ (fun _ => ?_)
theorem impl_OrderOk.mono : ∀ a0 k, LeO (impl_OrderOk.f k a0) (impl_OrderOk.f (k + 1) a0) := by
 intro a0 k
 obtain ⟨ih0, ih1, ih2, ih3, ih4, ih5, ih6, ih7⟩ := impl_OrderOk.mono_l k
 unfold impl_OrderOk.f
 repeat' first
   | (with_reducible exact ih0 _ _ _)
   | (with_reducible exact ih1 _ _ _ _ _)
   | (with_reducible exact ih2 _ _ _ _ _ _ _ _)
   | (with_reducible exact ih3 _ _ _ _ _ _ _ _ _)
   | (with_reducible exact ih4 _ _ _ _ _ _ _ _ _ _ _ _)
   | (with_reducible exact ih5 _ _ _ _)
   | (with_reducible exact ih6 _ _ _ _ _ _ _)
   | (with_reducible exact ih7 _ _ _ _ _ _ _ _ _ _)
   | (with_reducible exact LeO.refl _)
   | (with_reducible exact LeO.none _)
   | (with_reducible refine LeO.ite ?_ ?_)
   | (with_reducible refine LeO.bind ?_ (fun _ => ?_))
   | exact ih0 _ _ _
   | exact ih1 _ _ _ _ _
   | exact ih2 _ _ _ _ _ _ _ _
   | exact ih3 _ _ _ _ _ _ _ _ _
   | exact ih4 _ _ _ _ _ _ _ _ _ _ _ _
   | exact ih5 _ _ _ _
   | exact ih6 _ _ _ _ _ _ _
   | exact ih7 _ _ _ _ _ _ _ _ _ _
   | exact LeO.none _
   | refine LeO.ite ?_ ?_
   | refine LeO.bind ?_ (fun _ => ?_)
set_option maxHeartbeats 8000000 in
set_option maxRecDepth 100000 in
theorem impl_OrderOk.calls (k : Nat) (A0 : Option Addr) (c0 : Nat) (l0 : List (List Int)) (r : Bool) (w : World) (hr0 : Kd.C (Kd.slice 3 (Kd.int .i64)) w A0 l0.length l0) (hc0 : l0.length ≤ c0) (h : impl_OrderOk.f k l0 = some r) :
  Calls Tryd.prog 44 #[.slice A0 l0.length c0] w fun e w' => e = .returned (.bool r) ∧ Drawn0 w w' := by
 have c2:=zqm hr0;have w2:=zqm hc0;clear hr0 hc0;have H:(if(l0.length:Int)<1 then(impl_OrderOk.j0 k l0 (l0.length:Int) true) else(impl_OrderOk.j0 k l0 (l0.length:Int) (decide ((l0.length:Int)>12))))=some r:=h;clear h;have p4:=zqm H;clear H
 go_enter Tryd.func44,Tryd.ntmps44
 go_upto_region 2 with (fail)
 go_cut [18] (fun t5 wc=> ∃(kq:Nat) (h2:Bool),t5= .bool h2∧Aside0 (impl_OrderOk.j0 kq l0 (l0.length:Int) h2=some r)∧Aside0 (kq≤k)∧Drawn0 w wc)
 case first=>
  have H:=p4.out;clear p4
  by_cases c3:(l0.length:Int)<1
  ·rw [if_pos c3] at H;have i2:decide ((l0.length:Int)<1)=true:=decide_eq_true c3;have s2:decide (l0.length<1)=true:=decide_eq_true (by omega);clear c3;(first|rw [i2]|(simp only [i64_w,i32_w];rw [i2])|skip);have H':=zqm H;clear H
   go_wp2
   go_meet
   case rel=>exact⟨_,(true),zq16,H',⟨zq76⟩,zq27⟩
  ·rw [if_neg c3] at H;have i2:decide ((l0.length:Int)<1)=false:=decide_eq_false c3;have s2:decide (l0.length<1)=false:=decide_eq_false (by omega);clear c3;(first|rw [i2]|(simp only [i64_w,i32_w];rw [i2])|skip);have H':=zqm H;clear H
   go_wp2
   go_meet
   case rel=>exact⟨_,(decide ((l0.length:Int)>12)),zq16,H',⟨zq76⟩,zq27⟩
 case rest=>
  clear p4;obtain⟨kq,h2,rfl,HA,b1,⟨mc1,rfl⟩⟩:=hcut
  cases kq with
  |zero=>exact absurd HA.out (by simp [impl_OrderOk.j0])
  |succ s0=>
   have H:=HA.out;clear HA;simp only [impl_OrderOk.j0] at H
   by_cases c4:h2=true
   ·subst c4;rw [if_pos rfl] at H;obtain rfl:=Option.some.inj H
    go_wp2
    go_ret
    exact⟨zq16,zq27⟩
   ·replace c4:=Bool.eq_false_iff.mpr c4;subst c4;rw [if_neg (show¬(false=true) by decide)] at H;have H':=zqm H;clear H
    go_wp2
    go_loopg [21] s0 (fun kq t6 w'=> ∃(a0:Int),t6= .int .i64 a0∧Aside0 (impl_OrderOk.l0 kq l0 (l0.length:Int) l0 (l0.length:Int) a0=some r)∧Aside0 (kq≤s0)∧Drawn0 w w')
    case atStart=>exact⟨(0),zq16,H',⟨Nat.le_refl _⟩,zq27⟩
    case round=>
     clear H';obtain⟨a0,rfl,HA,b2,⟨m2,rfl⟩⟩:=hrel
     cases gk with
     |zero=>exact absurd HA.out (by simp [impl_OrderOk.l0])
     |succ k2=>
      have H:=HA.out;clear HA;simp only [impl_OrderOk.l0] at H
      by_cases c5:a0<(l0.length:Int)
      ·rw [if_pos c5] at H;have s3:decide (a0<(l0.length:Int))=true:=decide_eq_true c5;clear c5
       by_cases c6:0≤a0
       ·rw [if_pos c6] at H;have w0:decide (0≤a0)=true:=decide_eq_true c6;clear c6
        by_cases c7:a0<(l0.length:Int)
        ·rw [if_pos c7] at H;have w1:decide (a0<(l0.length:Int))=true:=decide_eq_true c7;clear c7;have p5:=zqm H;clear H;have m0:0≤(a0:Int):=zqo;have m7:a0<(l0.length:Int):=zqo;obtain⟨e2,t3,t4,s6,t0,j7,j6⟩:=at_L5 c2.out a0 m0 m7
         cases s6
         have i8:=zqm j6;have s9:=zqm j7;clear j6 j7;replace m0:=eq_true m0;replace m7:=eq_true m7
         go_upto_region 7 with (fail)
         go_cut [36] (fun t7 wc=> ∃(kq:Nat) (h3:Bool),t7= .bool h3∧Aside0 (impl_OrderOk.j2 kq l0 (l0.length:Int) a0 (rd_L5 l0 a0) l0 (l0.length:Int) a0 h3=some r)∧Aside0 (kq≤k2)∧Drawn0 w wc)
         case first=>
          have H:=p5.out;clear p5
          by_cases c9:((rd_L5 l0 a0).length:Int)=(l0.length:Int)
          ·rw [if_pos c9] at H;have i4:(((rd_L5 l0 a0).length:Int)==(l0.length:Int))=true:=beq_iff_eq.mpr c9;have s4:(((rd_L5 l0 a0).length:Int) !=(l0.length:Int))=false:=bne_eq_false_iff_eq.mpr c9;(have s5:((rd_L5 l0 a0).length==l0.length)=true:=by first|simpa using c9|(simp at c9 ⊢;omega));clear c9;(first|rw [i4]|(simp only [i64_w,i32_w];rw [i4])|skip)
           by_cases n1:a0<((rd_L5 l0 a0).length:Int)
           ·rw [if_pos n1] at H;have u5:decide (a0<((rd_L5 l0 a0).length:Int))=true:=decide_eq_true n1;clear n1;have H':=zqm H;clear H;have m1:0≤(a0:Int):=zqo;have m8:a0<((rd_L5 l0 a0).length:Int):=zqo;obtain⟨u3,s7,t1⟩:=Kd.at_int i8.out a0 m1 m8
            cases s7
            replace m1:=eq_true m1;replace m8:=eq_true m8
            go_wp2
            go_meet
            case rel=>exact⟨_,(((rd (rd_L5 l0 a0) a0) !=1)),zq16,H',⟨by have:=b1.out;have:=b2.out;first|omega|exact Nat.le_refl _⟩,zq27⟩
           ·rw [if_neg n1] at H;exact absurd H (by simp)
          ·rw [if_neg c9] at H;have i4:(((rd_L5 l0 a0).length:Int)==(l0.length:Int))=false:=beq_eq_false_iff_ne.mpr c9;have s4:(((rd_L5 l0 a0).length:Int) !=(l0.length:Int))=true:=bne_iff_ne.mpr c9;(have s5:((rd_L5 l0 a0).length==l0.length)=false:=by first|simpa using c9|(simp at c9 ⊢;omega));(first|rw [i4]|(simp only [i64_w,i32_w];rw [i4])|skip);have H':=zqm H;clear H
           go_wp2
           go_meet
           case rel=>exact⟨_,(true),zq16,H',⟨by have:=b1.out;have:=b2.out;first|omega|exact Nat.le_refl _⟩,zq27⟩
         case rest=>
          clear p5;obtain⟨kq,h3,rfl,HA,e7,⟨mc7,rfl⟩⟩:=hcut
          cases kq with
          |zero=>exact absurd HA.out (by simp [impl_OrderOk.j2])
          |succ s1=>
           have H:=HA.out;clear HA;simp only [impl_OrderOk.j2] at H
           by_cases n2:h3=true
           ·subst n2;rw [if_pos rfl] at H;obtain rfl:=Option.some.inj H
            go_wp2
            go_ret
            exact⟨zq16,zq27⟩
           ·replace n2:=Bool.eq_false_iff.mpr n2;subst n2;rw [if_neg (show¬(false=true) by decide)] at H;have H':=zqm H;clear H
            go_wp2
            go_loopg [39] s1 (fun kq t8 w'=> ∃(a1:Int),t8= .int .i64 a1∧Aside0 (impl_OrderOk.l1 kq l0 (l0.length:Int) a0 l0 (l0.length:Int) a0 (rd_L5 l0 a0) ((rd_L5 l0 a0).length:Int) a1=some r)∧Aside0 (kq≤s1)∧Drawn0 w w')
            case atStart=>exact⟨(0),zq16,H',⟨Nat.le_refl _⟩,zq27⟩
            case round=>
             clear H';obtain⟨a1,rfl,HA,b3,⟨m4,rfl⟩⟩:=hrel
             cases gk with
             |zero=>exact absurd HA.out (by simp [impl_OrderOk.l1])
             |succ k4=>
              have H:=HA.out;clear HA;simp only [impl_OrderOk.l1] at H
              by_cases i9:a1<((rd_L5 l0 a0).length:Int)
              ·rw [if_pos i9] at H;have q0:decide (a1<((rd_L5 l0 a0).length:Int))=true:=decide_eq_true i9;clear i9
               by_cases n3:0≤a1
               ·rw [if_pos n3] at H;have u6:decide (0≤a1)=true:=decide_eq_true n3;clear n3
                by_cases n4:a1<((rd_L5 l0 a0).length:Int)
                ·rw [if_pos n4] at H;have u7:decide (a1<((rd_L5 l0 a0).length:Int))=true:=decide_eq_true n4;clear n4;have k9:=zqm H;clear H;have m6:0≤(a1:Int):=zqo;have m9:a1<((rd_L5 l0 a0).length:Int):=zqo;obtain⟨u4,s8,t2⟩:=Kd.at_int i8.out a1 m6 m9
                 cases s8
                 replace m6:=eq_true m6;replace m9:=eq_true m9
                 go_upto_region 12 with (fail)
                 go_cut [49] (fun t9 wc=> ∃(kq:Nat) (g3:Bool),t9= .bool g3∧Aside0 (impl_OrderOk.j4 kq l0 (l0.length:Int) a0 a1 (rd (rd_L5 l0 a0) a1) l0 (l0.length:Int) a0 (rd_L5 l0 a0) ((rd_L5 l0 a0).length:Int) a1 g3=some r)∧Aside0 (kq≤k4)∧Drawn0 w wc)
                 case first=>
                  have H:=k9.out;clear k9
                  by_cases h5:(rd (rd_L5 l0 a0) a1)=0
                  ·rw [if_pos h5] at H;have g1:((rd (rd_L5 l0 a0) a1)==0)=true:=beq_iff_eq.mpr h5;have q1:((rd (rd_L5 l0 a0) a1) !=0)=false:=bne_eq_false_iff_eq.mpr h5;clear h5;(first|rw [g1]|(simp only [i64_w,i32_w];rw [g1])|skip);have H':=zqm H;clear H
                   go_wp2
                   go_meet
                   case rel=>exact⟨_,(false),zq16,H',⟨zq118⟩,zq27⟩
                  ·rw [if_neg h5] at H;have g1:((rd (rd_L5 l0 a0) a1)==0)=false:=beq_eq_false_iff_ne.mpr h5;have q1:((rd (rd_L5 l0 a0) a1) !=0)=true:=bne_iff_ne.mpr h5;(first|rw [g1]|(simp only [i64_w,i32_w];rw [g1])|skip);have H':=zqm H;clear H
                   go_wp2
                   go_meet
                   case rel=>exact⟨_,(((rd (rd_L5 l0 a0) a1) !=1)),zq16,H',⟨zq118⟩,zq27⟩
                 case rest=>
                  clear k9;obtain⟨kq,g3,rfl,HA,g5,⟨mc14,rfl⟩⟩:=hcut
                  cases kq with
                  |zero=>exact absurd HA.out (by simp [impl_OrderOk.j4])
                  |succ l9=>
                   have H:=HA.out;clear HA;simp only [impl_OrderOk.j4] at H
                   by_cases n5:g3=true
                   ·subst n5;rw [if_pos rfl] at H;obtain rfl:=Option.some.inj H
                    go_wp2
                    go_ret
                    exact⟨zq16,zq27⟩
                   ·replace n5:=Bool.eq_false_iff.mpr n5;subst n5;rw [if_neg (show¬(false=true) by decide)] at H
                    by_cases n6:0≤a1
                    ·rw [if_pos n6] at H;have u8:decide (0≤a1)=true:=decide_eq_true n6;clear n6
                     by_cases n7:a1<(l0.length:Int)
                     ·rw [if_pos n7] at H;have u9:decide (a1<(l0.length:Int))=true:=decide_eq_true n7;clear n7
                      by_cases e4:((rd_L5 l0 a1).length:Int)=(l0.length:Int)
                      ·rw [if_pos e4] at H;have q2:(((rd_L5 l0 a1).length:Int)==(l0.length:Int))=true:=beq_iff_eq.mpr e4;have q3:(((rd_L5 l0 a1).length:Int) !=(l0.length:Int))=false:=bne_eq_false_iff_eq.mpr e4;(have q4:((rd_L5 l0 a1).length==l0.length)=true:=by first|simpa using e4|(simp at e4 ⊢;omega));clear e4
                       by_cases h6:(rd (rd_L5 l0 a0) a1)=1
                       ·rw [if_pos h6] at H;have q5:((rd (rd_L5 l0 a0) a1)==1)=true:=beq_iff_eq.mpr h6;have q6:((rd (rd_L5 l0 a0) a1) !=1)=false:=bne_eq_false_iff_eq.mpr h6;clear h6
                        by_cases h7:a0=a1
                        ·rw [if_pos h7] at H;have q7:(a0==a1)=true:=beq_iff_eq.mpr h7;have q8:(a0 !=a1)=false:=bne_eq_false_iff_eq.mpr h7;clear h7;have H':=zqm H;clear H;have a9:0≤(a1:Int):=zqo;have b0:a1<(l0.length:Int):=zqo;obtain⟨c8,f9,g2,e3,d0,a6,a5⟩:=at_L5 c2.out a1 a9 b0;obtain rfl:e2=c8:=(by injection e3);have e6:=zqm a5;have e5:=zqm a6;clear a5 a6;replace a9:=eq_true a9;replace b0:=eq_true b0
                         go_wp2
                         go_roundg l9
                         (case measure=> exact zq73);case rel=>exact⟨(wrap64 (a1+1)),zq16,H',⟨zq73⟩,zq27⟩
                        ·rw [if_neg h7] at H;have q7:(a0==a1)=false:=beq_eq_false_iff_ne.mpr h7;have q8:(a0 !=a1)=true:=bne_iff_ne.mpr h7
                         by_cases n8:0≤a0
                         ·rw [if_pos n8] at H;have v0:decide (0≤a0)=true:=decide_eq_true n8;clear n8
                          by_cases n9:a0<((rd_L5 l0 a1).length:Int)
                          ·rw [if_pos n9] at H;have v1:decide (a0<((rd_L5 l0 a1).length:Int))=true:=decide_eq_true n9;clear n9
                           by_cases h8:(rd (rd_L5 l0 a1) a0)=1
                           ·rw [if_pos h8] at H;have q9:((rd (rd_L5 l0 a1) a0)==1)=true:=beq_iff_eq.mpr h8;have r0:((rd (rd_L5 l0 a1) a0) !=1)=false:=bne_eq_false_iff_eq.mpr h8;clear h8;obtain rfl:=Option.some.inj H;have a9:0≤(a1:Int):=zqo;have b0:a1<(l0.length:Int):=zqo;obtain⟨c8,f9,g2,e3,d0,a6,a5⟩:=at_L5 c2.out a1 a9 b0;obtain rfl:e2=c8:=(by injection e3);have e6:=zqm a5;have e5:=zqm a6;clear a5 a6;replace a9:=eq_true a9;replace b0:=eq_true b0;have f1:0≤(a1:Int):=zqo;have f5:a1<(l0.length:Int):=zqo;obtain⟨k0,p2,p6,l5,g8,d9,d7⟩:=at_L5 c2.out a1 f1 f5;obtain rfl:e2=k0:=(by injection l5);have g6:=zqm d7;have o8:=zqm d9;clear d7 d9;replace f1:=eq_true f1;replace f5:=eq_true f5;have ea_:=Option.some.inj (d0.symm.trans g8);injection ea_ with ea_ en_ ec_;subst ea_;subst ec_;clear en_;have f2:0≤(a0:Int):=zqo;have f6:a0<((rd_L5 l0 a1).length:Int):=zqo;obtain⟨p8,l6,p0⟩:=Kd.at_int g6.out a0 f2 f6
                            cases l6
                            replace f2:=eq_true f2;replace f6:=eq_true f6
                            go_wp2
                            go_ret
                            exact⟨zq16,zq27⟩
                           ·rw [if_neg h8] at H;have q9:((rd (rd_L5 l0 a1) a0)==1)=false:=beq_eq_false_iff_ne.mpr h8;have r0:((rd (rd_L5 l0 a1) a0) !=1)=true:=bne_iff_ne.mpr h8;have H':=zqm H;clear H;have a9:0≤(a1:Int):=zqo;have b0:a1<(l0.length:Int):=zqo;obtain⟨c8,f9,g2,e3,d0,a6,a5⟩:=at_L5 c2.out a1 a9 b0;obtain rfl:e2=c8:=(by injection e3);have e6:=zqm a5;have e5:=zqm a6;clear a5 a6;replace a9:=eq_true a9;replace b0:=eq_true b0;have f1:0≤(a1:Int):=zqo;have f5:a1<(l0.length:Int):=zqo;obtain⟨k0,p2,p6,l5,g8,d9,d7⟩:=at_L5 c2.out a1 f1 f5;obtain rfl:e2=k0:=(by injection l5);have g6:=zqm d7;have o8:=zqm d9;clear d7 d9;replace f1:=eq_true f1;replace f5:=eq_true f5;have ea_:=Option.some.inj (d0.symm.trans g8);injection ea_ with ea_ en_ ec_;subst ea_;subst ec_;clear en_;have f2:0≤(a0:Int):=zqo;have f6:a0<((rd_L5 l0 a1).length:Int):=zqo;obtain⟨p8,l6,p0⟩:=Kd.at_int g6.out a0 f2 f6
                            cases l6
                            replace f2:=eq_true f2;replace f6:=eq_true f6
                            go_wp2
                            go_roundg l9
                            (case measure=> exact zq73);case rel=>exact⟨(wrap64 (a1+1)),zq16,H',⟨zq73⟩,zq27⟩
                          ·rw [if_neg n9] at H;exact absurd H (by simp)
                         ·rw [if_neg n8] at H;exact absurd H (by simp)
                       ·rw [if_neg h6] at H;have q5:((rd (rd_L5 l0 a0) a1)==1)=false:=beq_eq_false_iff_ne.mpr h6;have q6:((rd (rd_L5 l0 a0) a1) !=1)=true:=bne_iff_ne.mpr h6;have H':=zqm H;clear H;have a9:0≤(a1:Int):=zqo;have b0:a1<(l0.length:Int):=zqo;obtain⟨c8,f9,g2,e3,d0,a6,a5⟩:=at_L5 c2.out a1 a9 b0;obtain rfl:e2=c8:=(by injection e3);have e6:=zqm a5;have e5:=zqm a6;clear a5 a6;replace a9:=eq_true a9;replace b0:=eq_true b0
                        go_wp2
                        go_roundg l9
                        (case measure=> exact zq73);case rel=>exact⟨(wrap64 (a1+1)),zq16,H',⟨zq73⟩,zq27⟩
                      ·rw [if_neg e4] at H;have q2:(((rd_L5 l0 a1).length:Int)==(l0.length:Int))=false:=beq_eq_false_iff_ne.mpr e4;have q3:(((rd_L5 l0 a1).length:Int) !=(l0.length:Int))=true:=bne_iff_ne.mpr e4;(have q4:((rd_L5 l0 a1).length==l0.length)=false:=by first|simpa using e4|(simp at e4 ⊢;omega));obtain rfl:=Option.some.inj H;have a9:0≤(a1:Int):=zqo;have b0:a1<(l0.length:Int):=zqo;obtain⟨c8,f9,g2,e3,d0,a6,a5⟩:=at_L5 c2.out a1 a9 b0;obtain rfl:e2=c8:=(by injection e3);have e6:=zqm a5;have e5:=zqm a6;clear a5 a6;replace a9:=eq_true a9;replace b0:=eq_true b0
                       go_wp2
                       go_ret
                       exact⟨zq16,zq27⟩
                     ·rw [if_neg n7] at H;exact absurd H (by simp)
                    ·rw [if_neg n6] at H;exact absurd H (by simp)
                ·rw [if_neg n4] at H;exact absurd H (by simp)
               ·rw [if_neg n3] at H;exact absurd H (by simp)
              ·rw [if_neg i9] at H;have q0:decide (a1<((rd_L5 l0 a0).length:Int))=false:=decide_eq_false i9;clear i9;have H':=zqm H;clear H
               go_wp2
               go_roundg k4
               (case measure=>have:=b1.out;have:=b2.out;have:=e7.out;have:=b3.out;omega);case rel=>exact⟨(wrap64 (a0+1)),zq16,H',⟨by have:=b1.out;have:=b2.out;have:=e7.out;have:=b3.out;omega⟩,zq27⟩
        ·rw [if_neg c7] at H;exact absurd H (by simp)
       ·rw [if_neg c6] at H;exact absurd H (by simp)
      ·rw [if_neg c5] at H;have s3:decide (a0<(l0.length:Int))=false:=decide_eq_false c5;clear c5;have H':=zqm H;clear H
       go_wp2
       go_loopg [79] k2 (fun kq u0 w'=> ∃(a2:Int),u0= .int .i64 a2∧Aside0 (impl_OrderOk.l2 kq l0 (l0.length:Int) (l0.length:Int) a2=some r)∧Aside0 (kq≤k2)∧Drawn0 w w')
       case atStart=>exact⟨(0),zq16,H',⟨Nat.le_refl _⟩,zq27⟩
       case round=>
        clear H';obtain⟨a2,rfl,HA,e8,⟨m3,rfl⟩⟩:=hrel
        cases gk with
        |zero=>exact absurd HA.out (by simp [impl_OrderOk.l2])
        |succ k3=>
         have H:=HA.out;clear HA;simp only [impl_OrderOk.l2] at H
         by_cases j1:a2<(l0.length:Int)
         ·rw [if_pos j1] at H;have r1:decide (a2<(l0.length:Int))=true:=decide_eq_true j1;clear j1;have H':=zqm H;clear H
          go_wp2
          go_loopg [83] k3 (fun kq u1 w'=> ∃(a3:Int),u1= .int .i64 a3∧Aside0 (impl_OrderOk.l3 kq l0 (l0.length:Int) a2 (l0.length:Int) a2 (l0.length:Int) a3=some r)∧Aside0 (kq≤k3)∧Drawn0 w w')
          case atStart=>exact⟨(0),zq16,H',⟨Nat.le_refl _⟩,zq27⟩
          case round=>
           clear H';obtain⟨a3,rfl,HA,b3,⟨m4,rfl⟩⟩:=hrel
           cases gk with
           |zero=>exact absurd HA.out (by simp [impl_OrderOk.l3])
           |succ k4=>
            have H:=HA.out;clear HA;simp only [impl_OrderOk.l3] at H
            by_cases j3:a3<(l0.length:Int)
            ·rw [if_pos j3] at H;have r2:decide (a3<(l0.length:Int))=true:=decide_eq_true j3;clear j3;have H':=zqm H;clear H
             go_wp2
             go_loopg [87] k4 (fun kq u2 w'=> ∃(a4:Int),u2= .int .i64 a4∧Aside0 (impl_OrderOk.l4 kq l0 (l0.length:Int) a2 a3 (l0.length:Int) a2 (l0.length:Int) a3 (l0.length:Int) a4=some r)∧Aside0 (kq≤k4)∧Drawn0 w w')
             case atStart=>exact⟨(0),zq16,H',⟨Nat.le_refl _⟩,zq27⟩
             case round=>
              clear H';obtain⟨a4,rfl,HA,h1,⟨m5,rfl⟩⟩:=hrel
              cases gk with
              |zero=>exact absurd HA.out (by simp [impl_OrderOk.l4])
              |succ k5=>
               have H:=HA.out;clear HA;simp only [impl_OrderOk.l4] at H
               by_cases j5:a4<(l0.length:Int)
               ·rw [if_pos j5] at H;have r3:decide (a4<(l0.length:Int))=true:=decide_eq_true j5;clear j5
                by_cases o0:0≤a2
                ·rw [if_pos o0] at H;have v2:decide (0≤a2)=true:=decide_eq_true o0;clear o0
                 by_cases o1:a2<(l0.length:Int)
                 ·rw [if_pos o1] at H;have v3:decide (a2<(l0.length:Int))=true:=decide_eq_true o1;clear o1
                  by_cases o2:0≤a3
                  ·rw [if_pos o2] at H;have v4:decide (0≤a3)=true:=decide_eq_true o2;clear o2
                   by_cases o3:a3<((rd_L5 l0 a2).length:Int)
                   ·rw [if_pos o3] at H;have v5:decide (a3<((rd_L5 l0 a2).length:Int))=true:=decide_eq_true o3;clear o3
                    by_cases h9:(rd (rd_L5 l0 a2) a3)=1
                    ·rw [if_pos h9] at H;have r4:((rd (rd_L5 l0 a2) a3)==1)=true:=beq_iff_eq.mpr h9;have r5:((rd (rd_L5 l0 a2) a3) !=1)=false:=bne_eq_false_iff_eq.mpr h9;clear h9
                     by_cases o4:a3<(l0.length:Int)
                     ·rw [if_pos o4] at H;have v6:decide (a3<(l0.length:Int))=true:=decide_eq_true o4;clear o4
                      by_cases o5:0≤a4
                      ·rw [if_pos o5] at H;have v7:decide (0≤a4)=true:=decide_eq_true o5;clear o5
                       by_cases o6:a4<((rd_L5 l0 a3).length:Int)
                       ·rw [if_pos o6] at H;have v8:decide (a4<((rd_L5 l0 a3).length:Int))=true:=decide_eq_true o6;clear o6
                        by_cases i0:(rd (rd_L5 l0 a3) a4)=1
                        ·rw [if_pos i0] at H;have r6:((rd (rd_L5 l0 a3) a4)==1)=true:=beq_iff_eq.mpr i0;have r7:((rd (rd_L5 l0 a3) a4) !=1)=false:=bne_eq_false_iff_eq.mpr i0;clear i0
                         by_cases o7:a4<((rd_L5 l0 a2).length:Int)
                         ·rw [if_pos o7] at H;have v9:decide (a4<((rd_L5 l0 a2).length:Int))=true:=decide_eq_true o7;clear o7
                          by_cases i1:(rd (rd_L5 l0 a2) a4)=1
                          ·rw [if_pos i1] at H;have r8:((rd (rd_L5 l0 a2) a4)==1)=true:=beq_iff_eq.mpr i1;have r9:((rd (rd_L5 l0 a2) a4) !=1)=false:=bne_eq_false_iff_eq.mpr i1;clear i1;have H':=zqm H;clear H;have b4:0≤(a2:Int):=zqo;have b6:a2<(l0.length:Int):=zqo;obtain⟨d5,h4,i3,e9,e1,a8,a7⟩:=at_L5 c2.out a2 b4 b6
                           cases e9
                           have c1:=zqm a7;have g4:=zqm a8;clear a7 a8;replace b4:=eq_true b4;replace b6:=eq_true b6;have b5:0≤(a3:Int):=zqo;have b7:a3<((rd_L5 l0 a2).length:Int):=zqo;obtain⟨k1,f0,g9⟩:=Kd.at_int c1.out a3 b5 b7
                           cases f0
                           replace b5:=eq_true b5;replace b7:=eq_true b7;have d1:0≤(a3:Int):=zqo;have d3:a3<(l0.length:Int):=zqo;obtain⟨g0,k7,k8,i5,j8,b9,b8⟩:=at_L5 c2.out a3 d1 d3;obtain rfl:d5=g0:=(by injection i5);have d6:=zqm b8;have i7:=zqm b9;clear b8 b9;replace d1:=eq_true d1;replace d3:=eq_true d3;have d2:0≤(a4:Int):=zqo;have d4:a4<((rd_L5 l0 a3).length:Int):=zqo;obtain⟨n0,i6,j9⟩:=Kd.at_int d6.out a4 d2 d4
                           cases i6
                           replace d2:=eq_true d2;replace d4:=eq_true d4;have f3:0≤(a2:Int):=zqo;have f7:a2<(l0.length:Int):=zqo;obtain⟨k6,p3,p7,l7,h0,e0,d8⟩:=at_L5 c2.out a2 f3 f7;obtain rfl:d5=k6:=(by injection l7);have g7:=zqm d8;have o9:=zqm e0;clear d8 e0;replace f3:=eq_true f3;replace f7:=eq_true f7;have ea_:=Option.some.inj (e1.symm.trans h0);injection ea_ with ea_ en_ ec_;subst ea_;subst ec_;clear en_;have f4:0≤(a4:Int):=zqo;have f8:a4<((rd_L5 l0 a2).length:Int):=zqo;obtain⟨p9,l8,p1⟩:=Kd.at_int g7.out a4 f4 f8
                           cases l8
                           replace f4:=eq_true f4;replace f8:=eq_true f8
                           go_wp2
                           go_roundg k5
                           (case measure=> exact zq51);case rel=>exact⟨(wrap64 (a4+1)),zq16,H',⟨zq51⟩,zq27⟩
                          ·rw [if_neg i1] at H;have r8:((rd (rd_L5 l0 a2) a4)==1)=false:=beq_eq_false_iff_ne.mpr i1;have r9:((rd (rd_L5 l0 a2) a4) !=1)=true:=bne_iff_ne.mpr i1;obtain rfl:=Option.some.inj H;have b4:0≤(a2:Int):=zqo;have b6:a2<(l0.length:Int):=zqo;obtain⟨d5,h4,i3,e9,e1,a8,a7⟩:=at_L5 c2.out a2 b4 b6
                           cases e9
                           have c1:=zqm a7;have g4:=zqm a8;clear a7 a8;replace b4:=eq_true b4;replace b6:=eq_true b6;have b5:0≤(a3:Int):=zqo;have b7:a3<((rd_L5 l0 a2).length:Int):=zqo;obtain⟨k1,f0,g9⟩:=Kd.at_int c1.out a3 b5 b7
                           cases f0
                           replace b5:=eq_true b5;replace b7:=eq_true b7;have d1:0≤(a3:Int):=zqo;have d3:a3<(l0.length:Int):=zqo;obtain⟨g0,k7,k8,i5,j8,b9,b8⟩:=at_L5 c2.out a3 d1 d3;obtain rfl:d5=g0:=(by injection i5);have d6:=zqm b8;have i7:=zqm b9;clear b8 b9;replace d1:=eq_true d1;replace d3:=eq_true d3;have d2:0≤(a4:Int):=zqo;have d4:a4<((rd_L5 l0 a3).length:Int):=zqo;obtain⟨n0,i6,j9⟩:=Kd.at_int d6.out a4 d2 d4
                           cases i6
                           replace d2:=eq_true d2;replace d4:=eq_true d4;have f3:0≤(a2:Int):=zqo;have f7:a2<(l0.length:Int):=zqo;obtain⟨k6,p3,p7,l7,h0,e0,d8⟩:=at_L5 c2.out a2 f3 f7;obtain rfl:d5=k6:=(by injection l7);have g7:=zqm d8;have o9:=zqm e0;clear d8 e0;replace f3:=eq_true f3;replace f7:=eq_true f7;have ea_:=Option.some.inj (e1.symm.trans h0);injection ea_ with ea_ en_ ec_;subst ea_;subst ec_;clear en_;have f4:0≤(a4:Int):=zqo;have f8:a4<((rd_L5 l0 a2).length:Int):=zqo;obtain⟨p9,l8,p1⟩:=Kd.at_int g7.out a4 f4 f8
                           cases l8
                           replace f4:=eq_true f4;replace f8:=eq_true f8
                           go_wp2
                           go_ret
                           exact⟨zq16,zq27⟩
                         ·rw [if_neg o7] at H;exact absurd H (by simp)
                        ·rw [if_neg i0] at H;have r6:((rd (rd_L5 l0 a3) a4)==1)=false:=beq_eq_false_iff_ne.mpr i0;have r7:((rd (rd_L5 l0 a3) a4) !=1)=true:=bne_iff_ne.mpr i0;have H':=zqm H;clear H;have b4:0≤(a2:Int):=zqo;have b6:a2<(l0.length:Int):=zqo;obtain⟨d5,h4,i3,e9,e1,a8,a7⟩:=at_L5 c2.out a2 b4 b6
                         cases e9
                         have c1:=zqm a7;have g4:=zqm a8;clear a7 a8;replace b4:=eq_true b4;replace b6:=eq_true b6;have b5:0≤(a3:Int):=zqo;have b7:a3<((rd_L5 l0 a2).length:Int):=zqo;obtain⟨k1,f0,g9⟩:=Kd.at_int c1.out a3 b5 b7
                         cases f0
                         replace b5:=eq_true b5;replace b7:=eq_true b7;have d1:0≤(a3:Int):=zqo;have d3:a3<(l0.length:Int):=zqo;obtain⟨g0,k7,k8,i5,j8,b9,b8⟩:=at_L5 c2.out a3 d1 d3;obtain rfl:d5=g0:=(by injection i5);have d6:=zqm b8;have i7:=zqm b9;clear b8 b9;replace d1:=eq_true d1;replace d3:=eq_true d3;have d2:0≤(a4:Int):=zqo;have d4:a4<((rd_L5 l0 a3).length:Int):=zqo;obtain⟨n0,i6,j9⟩:=Kd.at_int d6.out a4 d2 d4
                         cases i6
                         replace d2:=eq_true d2;replace d4:=eq_true d4
                         go_wp2
                         go_roundg k5
                         (case measure=> exact zq51);case rel=>exact⟨(wrap64 (a4+1)),zq16,H',⟨zq51⟩,zq27⟩
                       ·rw [if_neg o6] at H;exact absurd H (by simp)
                      ·rw [if_neg o5] at H;exact absurd H (by simp)
                     ·rw [if_neg o4] at H;exact absurd H (by simp)
                    ·rw [if_neg h9] at H;have r4:((rd (rd_L5 l0 a2) a3)==1)=false:=beq_eq_false_iff_ne.mpr h9;have r5:((rd (rd_L5 l0 a2) a3) !=1)=true:=bne_iff_ne.mpr h9;have H':=zqm H;clear H;have b4:0≤(a2:Int):=zqo;have b6:a2<(l0.length:Int):=zqo;obtain⟨d5,h4,i3,e9,e1,a8,a7⟩:=at_L5 c2.out a2 b4 b6
                     cases e9
                     have c1:=zqm a7;have g4:=zqm a8;clear a7 a8;replace b4:=eq_true b4;replace b6:=eq_true b6;have b5:0≤(a3:Int):=zqo;have b7:a3<((rd_L5 l0 a2).length:Int):=zqo;obtain⟨k1,f0,g9⟩:=Kd.at_int c1.out a3 b5 b7
                     cases f0
                     replace b5:=eq_true b5;replace b7:=eq_true b7
                     go_wp2
                     go_roundg k5
                     (case measure=> exact zq51);case rel=>exact⟨(wrap64 (a4+1)),zq16,H',⟨zq51⟩,zq27⟩
                   ·rw [if_neg o3] at H;exact absurd H (by simp)
                  ·rw [if_neg o2] at H;exact absurd H (by simp)
                 ·rw [if_neg o1] at H;exact absurd H (by simp)
                ·rw [if_neg o0] at H;exact absurd H (by simp)
               ·rw [if_neg j5] at H;have r3:decide (a4<(l0.length:Int))=false:=decide_eq_false j5;clear j5;have H':=zqm H;clear H
                go_wp2
                go_roundg k5
                (case measure=> exact zq51);case rel=>exact⟨(wrap64 (a3+1)),zq16,H',⟨zq51⟩,zq27⟩
            ·rw [if_neg j3] at H;have r2:decide (a3<(l0.length:Int))=false:=decide_eq_false j3;clear j3;have H':=zqm H;clear H
             go_wp2
             go_roundg k4
             (case measure=>have:=b1.out;have:=b2.out;have:=e8.out;have:=b3.out;omega);case rel=>exact⟨(wrap64 (a2+1)),zq16,H',⟨by have:=b1.out;have:=b2.out;have:=e8.out;have:=b3.out;omega⟩,zq27⟩
         ·rw [if_neg j1] at H;have r1:decide (a2<(l0.length:Int))=false:=decide_eq_false j1;clear j1;obtain rfl:=Option.some.inj H
          go_wp2
          go_ret
          exact⟨zq16,zq27⟩
end
section
attribute [local go_sem] max2_int min2_int max_two min_two max_three min_three max_four min_four
def laws_alive.f (k : Nat)  : Option (Bool) := (impl_OrderOk.f k (([(([1] : List Int))] : List (List Int)))).bind fun t609 => (if t609 = true then ((impl_OrderOk.f k (([(([0] : List Int))] : List (List Int)))).bind fun t616 => (some (!t616))) else (some false))
theorem laws_alive.mono : ∀ k, LeO (laws_alive.f k ) (laws_alive.f (k + 1) ) := by
 intro  k
 unfold laws_alive.f
 repeat' first
   | (with_reducible exact impl_OrderOk.mono _ _)
   | (with_reducible exact LeO.refl _)
   | (with_reducible exact LeO.none _)
   | (with_reducible refine LeO.ite ?_ ?_)
   | (with_reducible refine LeO.bind ?_ (fun _ => ?_))
   | exact impl_OrderOk.mono _ _
   | exact LeO.none _
   | refine LeO.ite ?_ ?_
   | refine LeO.bind ?_ (fun _ => ?_)
set_option maxHeartbeats 8000000 in
set_option maxRecDepth 100000 in
theorem laws_alive.calls (k : Nat)  (r : Bool) (w : World) (h : laws_alive.f k  = some r) :
  Calls Tryd.prog 26 #[] w fun e w' => e = .returned (.bool r) ∧ Below w.heap.size w w' := by
 have HB:=zqm (Below.refl w.heap.size w);have H:((impl_OrderOk.f k (([(([1]:List Int))]:List (List Int)))).bind fun a5=>(if a5=true then((impl_OrderOk.f k (([(([0]:List Int))]:List (List Int)))).bind fun a2=>(some (!a2))) else(some false)))=some r:=h;clear h;obtain⟨a3,b7⟩: ∃y_:List Int,y_=(([1]:List Int)):=⟨_,rfl⟩;replace H:((impl_OrderOk.f k (([a3]:List (List Int)))).bind fun a5=>(if a5=true then((impl_OrderOk.f k (([(([0]:List Int))]:List (List Int)))).bind fun a2=>(some (!a2))) else(some false)))=some r:=zqy b7 H;have b0:=zqm b7;clear b7;obtain⟨a4,b8⟩: ∃y_:List (List Int),y_=(([a3]:List (List Int))):=⟨_,rfl⟩;replace H:((impl_OrderOk.f k a4).bind fun a5=>(if a5=true then((impl_OrderOk.f k (([(([0]:List Int))]:List (List Int)))).bind fun a2=>(some (!a2))) else(some false)))=some r:=zqy b8 H;have b1:=zqm b8;clear b8;replace H:=Option.bind_eq_some_iff.mp H;obtain⟨a5,d1,H⟩:=H;(try dsimp only at H);have A1:=zqm d1;clear d1
 by_cases c2:a5=true
 ·subst c2;rw [if_pos rfl] at H;obtain⟨a8,b9⟩: ∃y_:List Int,y_=(([0]:List Int)):=⟨_,rfl⟩;replace H:((impl_OrderOk.f k (([a8]:List (List Int)))).bind fun a2=>(some (!a2)))=some r:=zqy b9 H;have c4:=zqm b9;clear b9;obtain⟨d0,c0⟩: ∃y_:List (List Int),y_=(([a8]:List (List Int))):=⟨_,rfl⟩;replace H:((impl_OrderOk.f k d0).bind fun a2=>(some (!a2)))=some r:=zqy c0 H;have c5:=zqm c0;clear c0;replace H:=Option.bind_eq_some_iff.mp H;obtain⟨a2,d2,H⟩:=H;(try dsimp only at H);have A3:=zqm d2;clear d2;obtain rfl:=Option.some.inj H
  go_enter Tryd.func26,Tryd.ntmps26
  go_wp2_with (first|((with_reducible refine gate_dst (N:=1) rfl ?_);(try(refine gate_guard (by rfl) ?_;dsimp only));refine Kd.R_lit (Kd.int .i64) _ 3 ?hg (N:=1) ?hd (xs:=([1]:List Int)) (inner:= [.int .i64 1]) (ok:=fun _=>True) (okp:=fun _=>True) ?hr ?hp (fun _ hk=>hk) trivial (Below.refl _ _) (Nat.le_refl _) (by simp) ?_;(case hd=>rfl);(case hg=>rfl);(case hr=> exact zq15);(case hp=> exact zq113);intro e1 w4 c1 hb hg_ hnew_;clear hg_ hnew_;(first|rw [← b0.out] at c1|(simp only [Int.reduceToNat] at c1;rw [← b0.out] at c1));have a1:=zqm (Kd.R_lower c1 (below_size zq10));replace HB:=zqm (below_step zq10 hb);clear hb c1;obtain⟨d3,d4,e3⟩:=Kd.R_slice a1.out;subst e3)|((with_reducible refine gate_dst (N:=2) rfl ?_);(try(refine gate_guard (by rfl) ?_;dsimp only));refine Kd.N_lit (Kd.slice 3 (Kd.int .i64)) _ 66 ?hg (N':=2) ?hd (xs:=([a3]:List (List Int))) (inner:= [.slice d3 a3.length d4]) (ok:=(fun _=>True)) (okp:=(fun _=>True)) ?hr ?hp (fun _ hk=>hk) ((show∀k_,w4.heap.size≤k_→(fun _=>True) k_ from fun k_ hk=>trivial) _ (Nat.le_refl _)) (Below.refl _ _) (Nat.le_refl _) (by simp) ?_;(case hd=>rfl);(case hg=>rfl);(case hr=> exact zq15);(case hp=>exact(Reps.one (show Kd.FK (Kd.slice 3 (Kd.int .i64)) _ _ a3 [.slice d3 a3.length d4] from (Kd.FK_slice_mk (Kd.R_reads' (Kd.R_mono (ok':=(fun _=>True)) (a1.out) (fun k_ hk=>trivial))).2.1 (Kd.R_F (Kd.R_mono (ok':=(fun _=>True)) (a1.out) (fun k_ hk=>trivial))))) (Reps.none _ _)));intro e2 w7 c3 hb hg_ hnew_;clear hg_ hnew_;(first|rw [← b1.out] at c3|(simp only [Int.reduceToNat] at c3;rw [← b1.out] at c3));have a0:=zqm (Kd.N_lower c3 (below_size zq10));replace HB:=zqm (below_step zq10 hb);clear a1;clear hb c3;obtain⟨b4,b5,e4⟩:=Kd.N_slice a0.out;subst e4)|((with_reducible refine gate_callee (f:=44) rfl ?_);refine goesL_ (some 3) rfl rfl Tryd.func44 zqk rfl #[.slice b4 a4.length b5] rfl zq11 ?_;(with_reducible refine(impl_OrderOk.calls k _ _ a4 true _ ?side1 ?side2 A1.out).mono ?_);(case side1=> exact zq91);(case side2=>exact(Kd.N_reads' a0.out).2.1);rintro e w' ⟨rfl,⟨nd,rfl⟩⟩;refine⟨_,rfl,?_⟩)|((with_reducible refine gate_dst (N:=5) rfl ?_);(try(refine gate_guard (by rfl) ?_;dsimp only));refine Kd.R_lit (Kd.int .i64) _ 3 ?hg (N:=5) ?hd (xs:=([0]:List Int)) (inner:= [.int .i64 0]) (ok:=fun _=>True) (okp:=fun _=>True) ?hr ?hp (fun _ hk=>hk) trivial (Below.refl _ _) (Nat.le_refl _) (by simp) ?_;(case hd=>rfl);(case hg=>rfl);(case hr=> exact zq15);(case hp=>exact(Reps.one (show Kd.M (Kd.int .i64) _ _ _ 0 [.int .i64 0] from rfl) (Reps.none _ _)));intro e9 e5 a6 hb hg_ hnew_;clear hg_ hnew_;(first|rw [← c4.out] at a6|(simp only [Int.reduceToNat] at a6;rw [← c4.out] at a6));replace a0:=zqm (Kd.N_elder' zq98 (Kd.R_base a6) hb);have a9:=zqm (Kd.R_lower a6 (below_size zq10));replace HB:=zqm (below_step zq10 hb);clear hb a6;obtain⟨c6,c8,d7⟩:=Kd.R_slice a9.out;subst d7)|((with_reducible refine gate_dst (N:=6) rfl ?_);(try(refine gate_guard (by rfl) ?_;dsimp only));refine Kd.N_lit (Kd.slice 3 (Kd.int .i64)) _ 66 ?hg (N':=6) ?hd (xs:=([a8]:List (List Int))) (inner:= [.slice c6 a8.length c8]) (ok:=(fun k_=>some k_≠(.slice b4 a4.length b5:Value).ownBlock)) (okp:=(fun k_=>some k_≠(.slice b4 a4.length b5:Value).ownBlock)) ?hr ?hp (fun _ hk=>hk) ((show∀k_,e5.heap.size≤k_→(fun k_=>some k_≠(.slice b4 a4.length b5:Value).ownBlock) k_ from fun k_ hk=>Kd.fresh' (Kd.N_lt zq98) k_ hk) _ (Nat.le_refl _)) (Below.refl _ _) (Nat.le_refl _) (by simp) ?_;(case hd=>rfl);(case hg=>rfl);(case hr=> exact zq15);(case hp=>exact(Reps.one (show Kd.FK (Kd.slice 3 (Kd.int .i64)) _ _ a8 [.slice c6 a8.length c8] from (Kd.FK_slice_mk (Kd.R_reads' (Kd.R_mono (ok':=(fun k_=>some k_≠(.slice b4 a4.length b5:Value).ownBlock)) (Kd.R_apart' (a9.out) (Kd.N_typed a0.out) (by decide)) (fun k_ hk=>hk.2))).2.1 (Kd.R_F (Kd.R_mono (ok':=(fun k_=>some k_≠(.slice b4 a4.length b5:Value).ownBlock)) (Kd.R_apart' (a9.out) (Kd.N_typed a0.out) (by decide)) (fun k_ hk=>hk.2))))) (Reps.none _ _)));intro f0 f1 a7 hb hg_ hnew_;clear hg_ hnew_;(first|rw [← c5.out] at a7|(simp only [Int.reduceToNat] at a7;rw [← c5.out] at a7));replace a0:=zqm (Kd.N_elder' zq98 (Kd.N_base a7) hb);have b6:=zqm (Kd.N_lower a7 (below_size zq10));replace HB:=zqm (below_step zq10 hb);clear a9;clear hb a7;obtain⟨e7,e8,d8⟩:=Kd.N_slice b6.out;subst d8)|(go_at_call 44;(with_reducible refine(impl_OrderOk.calls k _ _ d0 a2 _ ?side1 ?side2 A3.out).mono ?_);(case side1=>repeat(first|exact(Kd.N_reads' b6.out).2.2|(with_reducible refine Kd.C_alloc ?_ _)|(with_reducible refine Kd.C_drewN ?_ _)|(with_reducible refine Kd.C_drew ?_)));(case side2=>exact(Kd.N_reads' b6.out).2.1);rintro e w' ⟨rfl,⟨nd,rfl⟩⟩))
  go_ret
  exact⟨zq22,zq10⟩
 ·replace c2:=Bool.eq_false_iff.mpr c2;subst c2;rw [if_neg (show¬(false=true) by decide)] at H;obtain rfl:=Option.some.inj H
  go_enter Tryd.func26,Tryd.ntmps26
  go_wp2_with (first|((with_reducible refine gate_dst (N:=1) rfl ?_);(try(refine gate_guard (by rfl) ?_;dsimp only));refine Kd.R_lit (Kd.int .i64) _ 3 ?hg (N:=1) ?hd (xs:=([1]:List Int)) (inner:= [.int .i64 1]) (ok:=fun _=>True) (okp:=fun _=>True) ?hr ?hp (fun _ hk=>hk) trivial (Below.refl _ _) (Nat.le_refl _) (by simp) ?_;(case hd=>rfl);(case hg=>rfl);(case hr=> exact zq15);(case hp=> exact zq113);intro e1 e6 b2 hb hg_ hnew_;clear hg_ hnew_;(first|rw [← b0.out] at b2|(simp only [Int.reduceToNat] at b2;rw [← b0.out] at b2));have a1:=zqm (Kd.R_lower b2 (below_size zq10));replace HB:=zqm (below_step zq10 hb);clear hb b2;obtain⟨c7,c9,d9⟩:=Kd.R_slice a1.out;subst d9)|((with_reducible refine gate_dst (N:=2) rfl ?_);(try(refine gate_guard (by rfl) ?_;dsimp only));refine Kd.N_lit (Kd.slice 3 (Kd.int .i64)) _ 66 ?hg (N':=2) ?hd (xs:=([a3]:List (List Int))) (inner:= [.slice c7 a3.length c9]) (ok:=(fun _=>True)) (okp:=(fun _=>True)) ?hr ?hp (fun _ hk=>hk) ((show∀k_,e6.heap.size≤k_→(fun _=>True) k_ from fun k_ hk=>trivial) _ (Nat.le_refl _)) (Below.refl _ _) (Nat.le_refl _) (by simp) ?_;(case hd=>rfl);(case hg=>rfl);(case hr=> exact zq15);(case hp=>exact(Reps.one (show Kd.FK (Kd.slice 3 (Kd.int .i64)) _ _ a3 [.slice c7 a3.length c9] from (Kd.FK_slice_mk (Kd.R_reads' (Kd.R_mono (ok':=(fun _=>True)) (a1.out) (fun k_ hk=>trivial))).2.1 (Kd.R_F (Kd.R_mono (ok':=(fun _=>True)) (a1.out) (fun k_ hk=>trivial))))) (Reps.none _ _)));intro e2 f2 b3 hb hg_ hnew_;clear hg_ hnew_;(first|rw [← b1.out] at b3|(simp only [Int.reduceToNat] at b3;rw [← b1.out] at b3));have a0:=zqm (Kd.N_lower b3 (below_size zq10));replace HB:=zqm (below_step zq10 hb);clear a1;clear hb b3;obtain⟨d5,d6,e0⟩:=Kd.N_slice a0.out;subst e0)|((with_reducible refine gate_callee (f:=44) rfl ?_);refine goesL_ (some 3) rfl rfl Tryd.func44 zqk rfl #[.slice d5 a4.length d6] rfl zq11 ?_;(with_reducible refine(impl_OrderOk.calls k _ _ a4 false _ ?side1 ?side2 A1.out).mono ?_);(case side1=> exact zq91);(case side2=>exact(Kd.N_reads' a0.out).2.1);rintro e w' ⟨rfl,⟨nd,rfl⟩⟩;refine⟨_,rfl,?_⟩))
  go_ret
  exact⟨zq22,zq10⟩
end
end Go.Proofs.YtddgcdpogpppgaaDoor.Print
end
section
namespace Go.Proofs.YtddgcdpogpppgaaDoor.Print
open Go.RowKit Go.Proofs.YtddgcdpogpppgaaDoorW.PrintWords Go.Proofs.YtddgcdpogpppgaaDoorW.PrintLast Go.Proofs.YtddgcdpogpppgaaDoorW.PrintMore
open Oml
theorem alive_run : Ev (fun k => laws_alive.f k) true := Ev.of laws_alive.mono (show laws_alive.f 60 = some true by kernel_rfl)
set_option maxHeartbeats 4000000 in
set_option maxRecDepth 100000 in
theorem laws_FnDeedText.holds (A : Option Addr) (c : Nat) (l : List Int) (w : World) (ad : Addr) (cw : Nat) (hW : WordsAt w ad cw) (hE : ErrsAt w) (hr : Kd.C (Kd.int .u8) w A l.length l) (hc : l.length ≤ c) (hby : Bytes l) :
 Calls Tryd.prog 7 #[.slice A l.length c] w fun e w'=>e= .returned (.bool true)∧Below w.heap.size w w':=by
 have hu25:=Tryd.underlying25
 have HW:=zqm hW
 have HE:=zqm hE
 have HR:=zqm hr
 have HC:=zqm hc
 have HB:=zqm (Below.refl w.heap.size w)
 by_cases hl:1048576<l.length
 ·clear hW hE hr hc hby
  have p0:((1048576:Int)<(l.length:Int))=True:=eq_true (by omega)
  have p0':decide ((1048576:Int)<(l.length:Int))=true:=decide_eq_true (by omega)
  have p0n:(1048576<l.length)=True:=eq_true hl
  have p0n':decide (1048576<l.length)=true:=decide_eq_true hl
  clear hl
  go_enter Tryd.func7,Tryd.ntmps7
  go_wp2_with (first|fail)
  go_ret
  exact⟨rfl,zq101⟩
 ·have p0:((1048576:Int)<(l.length:Int))=False:=eq_false (by omega)
  have p0':decide ((1048576:Int)<(l.length:Int))=false:=decide_eq_false (by omega)
  have p0n:(1048576<l.length)=False:=eq_false hl
  have p0n':decide (1048576<l.length)=false:=decide_eq_false hl
  obtain⟨k,a,b,h1⟩:=drawn_deed hby
  obtain⟨K,h1⟩:=h1.rounds
  obtain⟨m,hm⟩:=(spec_DeedText.ev k a b).rounds
  obtain⟨KA,hal⟩:=alive_run.rounds
  have HAL:=zqm hal
  have H1:=zqm h1
  have HD:=zqm (fun w (h:WordsAt w ad cw)=>deed_calls k a b w ad cw h)
  have hre:=fun w (h1:WordsAt w ad cw) (h2:ErrsAt w)=>read_calls (deedT k a b) w ad cw h1 h2 (by have:=deedT_size k a b;omega)
  clear h1 hal
  clear hW hE hr hc hby hl
  cases hv:deedV k a b with
  |false=>
   have h_:(deedT k a b).toList= []:=by unfold deedT;rw [hv,if_neg (by simp),ba_toList]
   obtain⟨t,ht⟩: ∃t,t=deedT k a b:=⟨_,rfl⟩
   rw [← ht] at hm HD h_
   have HM:=zqm hm
   clear hm hv ht hre
   have q1:(t.toList==([]:List UInt8))=true:=beq_iff_eq.mpr h_
   have q2:(t.toList !=([]:List UInt8))=false:=bne_eq_false_iff_eq.mpr h_
   have q3:t.toList.isEmpty=true:=by rw [List.isEmpty_iff];exact h_
   have q0:(t.toList= [])=True:=eq_true h_
   clear h_
   go_enter Tryd.func7,Tryd.ntmps7
   go_wp2_with (first|(go_at_call 25;(with_reducible refine(spec_DrawDeedText.calls K A c l k a b _ HR.out HC.out H1.out).mono ?_);rintro e w' ⟨rfl,hb⟩;have n0_:=zqm (below_step HB.out hb);clear HB;have HB:=n0_;clear n0_;clear hb HR)|((with_reducible refine gate_dst (N:=3) rfl ?_);refine box_event ?hg (N:=3) ?hd (cs:= #[.int .i64 0,.int .i64 0,.int .i64 0]) (t:=25) ?hr ?_;(case hd=>rfl);(case hg=>rfl);(case hr=> exact zq15);intro g3 hg_ wb3 hbox hb;have HBo:=HB;have n0_:=zqm (below_step HB.out hb);clear HB;have HB:=n0_;clear n0_;have HX:=zqm hbox;have HXW:=zqm (show w.heap.size≤g3 from by rw [hg_];exact HBo.out.size);clear HBo hbox hb hg_)|((with_reducible refine gate_store (t:=25) (p:=3) rfl ?_);have hc0_:wb3.cell? ⟨g3,0,none⟩=some (.int .i64 0):=(blk_cell HX.out 0).trans rfl;have hf0_:=blk_frozen HX.out 0;have hc1_:wb3.cell? ⟨g3,1,none⟩=some (.int .i64 0):=(blk_cell HX.out 1).trans rfl;have hf1_:=blk_frozen HX.out 1;have hc2_:wb3.cell? ⟨g3,2,none⟩=some (.int .i64 0):=(blk_cell HX.out 2).trans rfl;have hf2_:=blk_frozen HX.out 2;refine store_event (t:=25) (p:=3) (v:=?vo_3) (w1:=((wb3.setCell ⟨g3,0,none⟩ (.int .i64 k)).setCell ⟨g3,1,none⟩ (.int .i64 a)).setCell ⟨g3,2,none⟩ (.int .i64 b)) ?hg ?ho ?hn ?hr ?_;(case ho=>rfl);(case hg=>rfl);(case hn=>rfl);(case hr=> exact zq15);intro ws3 hw;clear hc0_ hc1_ hc2_ hf0_ hf1_ hf2_;have n0_:=zqm ((by rw [hw];exact below_set (below_set (below_set HB.out HXW.out) HXW.out) HXW.out:Below w.heap.size w ws3));have n1_:=zqm ((by rw [hw];exact blk_put (blk_put (blk_put HX.out 0 _ rfl) 1 _ rfl) 2 _ rfl:ws3.heap[g3]? =some (.cells #[.int .i64 k,.int .i64 a,.int .i64 b] 25 (0,0))));clear HB HX;have HB:=n0_;have HX:=n1_;clear n0_ n1_;clear hw;have hx0:ws3.cell? ⟨g3,0,none⟩=some (.int .i64 k):=(blk_cell HX.out 0).trans rfl;have hx1:ws3.cell? ⟨g3,1,none⟩=some (.int .i64 a):=(blk_cell HX.out 1).trans rfl;have hx2:ws3.cell? ⟨g3,2,none⟩=some (.int .i64 b):=(blk_cell HX.out 2).trans rfl)|(go_at_call 12;(with_reducible refine(HD.out _ (HW.out.below HB.out)).mono ?_);rintro e w' ⟨rfl,hb⟩;clear hx0 hx1 hx2;have n0_:=zqm (below_step HB.out hb);have n1_:=zqm (blk_below HX.out hb);clear HB HX;have HB:=n0_;have HX:=n1_;clear n0_ n1_;clear hb;have hx0:w'.cell? ⟨g3,0,none⟩=some (.int .i64 k):=(blk_cell HX.out 0).trans rfl;have hx1:w'.cell? ⟨g3,1,none⟩=some (.int .i64 a):=(blk_cell HX.out 1).trans rfl;have hx2:w'.cell? ⟨g3,2,none⟩=some (.int .i64 b):=(blk_cell HX.out 2).trans rfl)|(go_at_call 10;(with_reducible refine(spec_DeedText.calls m k a b t _ HM.out).mono ?_);rintro e w' ⟨rfl,hb⟩;clear hx0 hx1 hx2;have n0_:=zqm (below_step HB.out hb);have n1_:=zqm (blk_below HX.out hb);clear HB HX;have HB:=n0_;have HX:=n1_;clear n0_ n1_;clear hb)|(go_at_call 26;(with_reducible refine(laws_alive.calls KA true _ HAL.out).mono ?_);rintro e w' ⟨rfl,hb⟩;have n0_:=zqm (below_step HB.out hb);clear HB;have HB:=n0_;clear n0_;clear hb))
   go_ret
   exact⟨rfl,zq101⟩
  |true=>
   have h_: ¬(deedT k a b).toList= []:=fun e=>by
    rw [ba_toList] at e
    exact deedT_ne.2 hv (ba_ext e)
   have hrd:=rd_hit hv rfl
   obtain⟨t,ht⟩: ∃t,t=deedT k a b:=⟨_,rfl⟩
   rw [← ht] at hm HD h_ hre hrd
   rw [hrd] at hre
   have HRD:=zqm hre
   have HM:=zqm hm
   clear hm hv ht hre hrd
   have q1:(t.toList==([]:List UInt8))=false:=beq_eq_false_iff_ne.mpr h_
   have q2:(t.toList !=([]:List UInt8))=true:=bne_iff_ne.mpr h_
   have q3:t.toList.isEmpty=false:=by rw [List.isEmpty_eq_false_iff];exact h_
   have q0:(t.toList= [])=False:=eq_false h_
   clear h_
   go_enter Tryd.func7,Tryd.ntmps7
   go_wp2_with (first|(go_at_call 25;(with_reducible refine(spec_DrawDeedText.calls K A c l k a b _ HR.out HC.out H1.out).mono ?_);rintro e w' ⟨rfl,hb⟩;have n0_:=zqm (below_step HB.out hb);clear HB;have HB:=n0_;clear n0_;clear hb HR)|((with_reducible refine gate_dst (N:=3) rfl ?_);refine box_event ?hg (N:=3) ?hd (cs:= #[.int .i64 0,.int .i64 0,.int .i64 0]) (t:=25) ?hr ?_;(case hd=>rfl);(case hg=>rfl);(case hr=> exact zq15);intro g3 hg_ wb3 hbox hb;have HBo:=HB;have n0_:=zqm (below_step HB.out hb);clear HB;have HB:=n0_;clear n0_;have HX:=zqm hbox;have HXW:=zqm (show w.heap.size≤g3 from by rw [hg_];exact HBo.out.size);clear HBo hbox hb hg_)|((with_reducible refine gate_store (t:=25) (p:=3) rfl ?_);have hc0_:wb3.cell? ⟨g3,0,none⟩=some (.int .i64 0):=(blk_cell HX.out 0).trans rfl;have hf0_:=blk_frozen HX.out 0;have hc1_:wb3.cell? ⟨g3,1,none⟩=some (.int .i64 0):=(blk_cell HX.out 1).trans rfl;have hf1_:=blk_frozen HX.out 1;have hc2_:wb3.cell? ⟨g3,2,none⟩=some (.int .i64 0):=(blk_cell HX.out 2).trans rfl;have hf2_:=blk_frozen HX.out 2;refine store_event (t:=25) (p:=3) (v:=?vo_3) (w1:=((wb3.setCell ⟨g3,0,none⟩ (.int .i64 k)).setCell ⟨g3,1,none⟩ (.int .i64 a)).setCell ⟨g3,2,none⟩ (.int .i64 b)) ?hg ?ho ?hn ?hr ?_;(case ho=>rfl);(case hg=>rfl);(case hn=>rfl);(case hr=> exact zq15);intro ws3 hw;clear hc0_ hc1_ hc2_ hf0_ hf1_ hf2_;have n0_:=zqm ((by rw [hw];exact below_set (below_set (below_set HB.out HXW.out) HXW.out) HXW.out:Below w.heap.size w ws3));have n1_:=zqm ((by rw [hw];exact blk_put (blk_put (blk_put HX.out 0 _ rfl) 1 _ rfl) 2 _ rfl:ws3.heap[g3]? =some (.cells #[.int .i64 k,.int .i64 a,.int .i64 b] 25 (0,0))));clear HB HX;have HB:=n0_;have HX:=n1_;clear n0_ n1_;clear hw;have hx0:ws3.cell? ⟨g3,0,none⟩=some (.int .i64 k):=(blk_cell HX.out 0).trans rfl;have hx1:ws3.cell? ⟨g3,1,none⟩=some (.int .i64 a):=(blk_cell HX.out 1).trans rfl;have hx2:ws3.cell? ⟨g3,2,none⟩=some (.int .i64 b):=(blk_cell HX.out 2).trans rfl)|(go_at_call 12;(with_reducible refine(HD.out _ (HW.out.below HB.out)).mono ?_);rintro e w' ⟨rfl,hb⟩;clear hx0 hx1 hx2;have n0_:=zqm (below_step HB.out hb);have n1_:=zqm (blk_below HX.out hb);clear HB HX;have HB:=n0_;have HX:=n1_;clear n0_ n1_;clear hb;have hx0:w'.cell? ⟨g3,0,none⟩=some (.int .i64 k):=(blk_cell HX.out 0).trans rfl;have hx1:w'.cell? ⟨g3,1,none⟩=some (.int .i64 a):=(blk_cell HX.out 1).trans rfl;have hx2:w'.cell? ⟨g3,2,none⟩=some (.int .i64 b):=(blk_cell HX.out 2).trans rfl)|(go_at_call 10;(with_reducible refine(spec_DeedText.calls m k a b t _ HM.out).mono ?_);rintro e w' ⟨rfl,hb⟩;clear hx0 hx1 hx2;have n0_:=zqm (below_step HB.out hb);have n1_:=zqm (blk_below HX.out hb);clear HB HX;have HB:=n0_;have HX:=n1_;clear n0_ n1_;clear hb)|(go_at_call 19;(with_reducible refine(HRD.out _ (HW.out.below HB.out) (HE.out.below HB.out)).mono ?_);rintro e w' ⟨rfl,hb⟩;have n0_:=zqm (below_step HB.out hb);have n1_:=zqm (blk_below HX.out hb);clear HB HX;have HB:=n0_;have HX:=n1_;clear n0_ n1_;clear hb)|((with_reducible refine gate_dst (N:=5) rfl ?_);refine box_event ?hg (N:=5) ?hd (cs:= #[.int .i64 0,.int .i64 0,.int .i64 0]) (t:=25) ?hr ?_;(case hd=>rfl);(case hg=>rfl);(case hr=> exact zq15);intro g5 hg_ wb5 hbox hb;have HNE:=zqm (show g3≠g5 from by rw [hg_];exact Nat.ne_of_lt (blk_lt HX.out));have HBo:=HB;have n0_:=zqm (below_step HB.out hb);have n1_:=zqm (blk_below HX.out hb);clear HB HX;have HB:=n0_;have HX:=n1_;clear n0_ n1_;have HY:=zqm hbox;have HYW:=zqm (show w.heap.size≤g5 from by rw [hg_];exact HBo.out.size);clear HBo hbox hb hg_)|((with_reducible refine gate_store (t:=25) (p:=5) rfl ?_);have hc0_:wb5.cell? ⟨g5,0,none⟩=some (.int .i64 0):=(blk_cell HY.out 0).trans rfl;have hf0_:=blk_frozen HY.out 0;have hc1_:wb5.cell? ⟨g5,1,none⟩=some (.int .i64 0):=(blk_cell HY.out 1).trans rfl;have hf1_:=blk_frozen HY.out 1;have hc2_:wb5.cell? ⟨g5,2,none⟩=some (.int .i64 0):=(blk_cell HY.out 2).trans rfl;have hf2_:=blk_frozen HY.out 2;refine store_event (t:=25) (p:=5) (v:=?vo_5) (w1:=((wb5.setCell ⟨g5,0,none⟩ (.int .i64 k)).setCell ⟨g5,1,none⟩ (.int .i64 a)).setCell ⟨g5,2,none⟩ (.int .i64 b)) ?hg ?ho ?hn ?hr ?_;(case ho=>rfl);(case hg=>rfl);(case hn=>rfl);(case hr=> exact zq15);intro ws5 hw;clear hc0_ hc1_ hc2_ hf0_ hf1_ hf2_;have n0_:=zqm ((by rw [hw];exact below_set (below_set (below_set HB.out HYW.out) HYW.out) HYW.out:Below w.heap.size w ws5));have n1_:=zqm ((by rw [hw];exact blk_put (blk_put (blk_put HY.out 0 _ rfl) 1 _ rfl) 2 _ rfl:ws5.heap[g5]? =some (.cells #[.int .i64 k,.int .i64 a,.int .i64 b] 25 (0,0))));have n2_:=zqm ((by rw [hw];exact blk_far (blk_far (blk_far HX.out HNE.out _) HNE.out _) HNE.out _:ws5.heap[g3]? =some (.cells #[.int .i64 k,.int .i64 a,.int .i64 b] 25 (0,0))));clear HB HY HX;have HB:=n0_;have HY:=n1_;have HX:=n2_;clear n0_ n1_ n2_;clear hw;have hx0:ws5.cell? ⟨g3,0,none⟩=some (.int .i64 k):=(blk_cell HX.out 0).trans rfl;have hx1:ws5.cell? ⟨g3,1,none⟩=some (.int .i64 a):=(blk_cell HX.out 1).trans rfl;have hx2:ws5.cell? ⟨g3,2,none⟩=some (.int .i64 b):=(blk_cell HX.out 2).trans rfl;have hy0:ws5.cell? ⟨g5,0,none⟩=some (.int .i64 k):=(blk_cell HY.out 0).trans rfl;have hy1:ws5.cell? ⟨g5,1,none⟩=some (.int .i64 a):=(blk_cell HY.out 1).trans rfl;have hy2:ws5.cell? ⟨g5,2,none⟩=some (.int .i64 b):=(blk_cell HY.out 2).trans rfl))
   go_ret
   exact⟨rfl,zq101⟩
end Go.Proofs.YtddgcdpogpppgaaDoor.Print
end
