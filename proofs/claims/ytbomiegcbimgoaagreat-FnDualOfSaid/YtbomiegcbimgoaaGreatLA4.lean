/- Part 4 of what is common to several claims of this seat: DualL. -/
import Derived.Test.YtbomiegcbimgoaaGreatLA3
import Derived.Below
import Derived.Deep.Draws
import Derived.Deep.AppendLies
import Derived.Maps.AppendAt
import Derived.OwnWalk
import Derived.Laws.BytesArg
import Derived.Laws.MakeOwn
import Derived.Laws.OwnMore
import Derived.Deep.OwnRows
import Derived.Tactics
import Derived.Lib.ConvBytes
import Derived.Laws.Slices
import Derived.WalkKit
import Derived.KernelRfl
import Derived.RowKit3
import Derived.Deep.LoopGhost
import Derived.Deep.QuietTactic
import Derived.BigQuiet
import Derived.WideLaws
import Derived.Deep.DeepCutAuto
import Derived.Deep.CutBlock
import Derived.Deep.RegionHeld3
import Derived.Laws.Rows
import Derived.Lib.AppendStr
import Derived.ArgAppend
import Derived.Laws.IdiomCopy
import Derived.RowKit
import Derived.OrdersHeld
import Derived.Laws.BitsLemmas
import Derived.Test.YtbomiegcbimgoaaGreatProg
set_option linter.all false
section
namespace Go.Proofs.YtbomiegcbimgoaaGreat.Print
open Go.RowKit Go.Proofs.YtbomiegcbimgoaaGreatW.PrintWords Go.Proofs.YtbomiegcbimgoaaGreatW.PrintLast Go.Proofs.YtbomiegcbimgoaaGreatW.PrintMore
section
attribute [local go_sem] max2_int min2_int max_two min_two max_three min_three max_four min_four
mutual
def spec_l20Glued.l0 : Nat → Int → Int → Int → List (List Int) → List Int → List (List Int) → List Int → List (List Int) → List Int → Option ((List (List Int)) × List Int)
 | 0, _, _, _, _, _, _, _, _, _ => none
 | k + 1, x5, x6, x8, x206000, x206001, x207000, x207001, x209000, x209001 => if x8 < (wrap64 ((wrap64 (x5 + x6)) - 2)) then (spec_l20Glued.l1 k x5 x6 x8 (([] : List Int)) 0 x206000 x206001 x207000 x207001 x209000 x209001) else (some (x209000, x209001))
def spec_l20Glued.l1 : Nat → Int → Int → Int → List Int → Int → List (List Int) → List Int → List (List Int) → List Int → List (List Int) → List Int → Option ((List (List Int)) × List Int)
 | 0, _, _, _, _, _, _, _, _, _, _, _ => none
 | k + 1, x5, x6, x8, x9, x10, x206000, x206001, x207000, x207001, x209000, x209001 => if x10 < (wrap64 ((wrap64 (x5 + x6)) - 2)) then (if x8 = 0 then (spec_l20Glued.j2 k x5 x6 x8 x9 x10 0 true x206000 x206001 x207000 x207001 x209000 x209001) else (spec_l20Glued.j2 k x5 x6 x8 x9 x10 0 (x10 == (wrap64 ((wrap64 (x5 + x6)) - 3))) x206000 x206001 x207000 x207001 x209000 x209001)) else (if x209000.length < 5864062014805 then ((some (x209000 ++ [x9] : List (List Int))).bind fun y231 => (if x8 = 0 then (if x209001.length < 17592186044416 then (spec_l20Glued.l0 k x5 x6 (wrap64 (x8 + 1)) x206000 x206001 x207000 x207001 y231 (x209001 ++ [wrap64 ((wrap64 (x5 + x6)) - 3)])) else (none)) else (if x8 = (wrap64 ((wrap64 (x5 + x6)) - 3)) then (if x209001.length < 17592186044416 then (spec_l20Glued.l0 k x5 x6 (wrap64 (x8 + 1)) x206000 x206001 x207000 x207001 y231 (x209001 ++ [0])) else (none)) else (if x8 < (wrap64 (x5 - 1)) then (if 0 ≤ x8 then (if x8 < (x206001.length : Int) then (if x209001.length < 17592186044416 then (spec_l20Glued.l0 k x5 x6 (wrap64 (x8 + 1)) x206000 x206001 x207000 x207001 y231 (x209001 ++ [rd x206001 x8])) else (none)) else (none)) else (none)) else (if 0 ≤ (wrap64 ((wrap64 (x8 - x5)) + 2)) then (if (wrap64 ((wrap64 (x8 - x5)) + 2)) < (x207001.length : Int) then (if x209001.length < 17592186044416 then (spec_l20Glued.l0 k x5 x6 (wrap64 (x8 + 1)) x206000 x206001 x207000 x207001 y231 (x209001 ++ [wrap64 ((wrap64 ((rd x207001 (wrap64 ((wrap64 (x8 - x5)) + 2))) + x5)) - 2)])) else (none)) else (none)) else (none)))))) else (none))
def spec_l20Glued.j2 : Nat → Int → Int → Int → List Int → Int → Int → Bool → List (List Int) → List Int → List (List Int) → List Int → List (List Int) → List Int → Option ((List (List Int)) × List Int)
 | 0, _, _, _, _, _, _, _, _, _, _, _, _, _ => none
 | k + 1, x5, x6, x8, x9, x10, x11, x36, x206000, x206001, x207000, x207001, x209000, x209001 => if x36 = true then (if x9.length < 17592186044416 then (spec_l20Glued.l1 k x5 x6 x8 (x9 ++ [1]) (wrap64 (x10 + 1)) x206000 x206001 x207000 x207001 x209000 x209001) else (none)) else (if x8 < (wrap64 (x5 - 1)) then (spec_l20Glued.j3 k x5 x6 x8 x9 x10 x11 (decide (x10 < (wrap64 (x5 - 1)))) x206000 x206001 x207000 x207001 x209000 x209001) else (spec_l20Glued.j3 k x5 x6 x8 x9 x10 x11 false x206000 x206001 x207000 x207001 x209000 x209001))
def spec_l20Glued.j3 : Nat → Int → Int → Int → List Int → Int → Int → Bool → List (List Int) → List Int → List (List Int) → List Int → List (List Int) → List Int → Option ((List (List Int)) × List Int)
 | 0, _, _, _, _, _, _, _, _, _, _, _, _, _ => none
 | k + 1, x5, x6, x8, x9, x10, x11, x47, x206000, x206001, x207000, x207001, x209000, x209001 => if x47 = true then (if 0 ≤ x8 then (if x8 < (x206000.length : Int) then (if 0 ≤ x10 then (if x10 < ((rd_L3 x206000 x8).length : Int) then (if x9.length < 17592186044416 then (spec_l20Glued.l1 k x5 x6 x8 (x9 ++ [rd (rd_L3 x206000 x8) x10]) (wrap64 (x10 + 1)) x206000 x206001 x207000 x207001 x209000 x209001) else (none)) else (none)) else (none)) else (none)) else (none)) else (if x8 ≥ (wrap64 (x5 - 1)) then (if x10 ≥ (wrap64 (x5 - 1)) then (spec_l20Glued.j4 k x5 x6 x8 x9 x10 x11 (decide (x8 < (wrap64 ((wrap64 (x5 + x6)) - 3)))) x206000 x206001 x207000 x207001 x209000 x209001) else (spec_l20Glued.j4 k x5 x6 x8 x9 x10 x11 false x206000 x206001 x207000 x207001 x209000 x209001)) else (spec_l20Glued.j4 k x5 x6 x8 x9 x10 x11 false x206000 x206001 x207000 x207001 x209000 x209001))
def spec_l20Glued.j4 : Nat → Int → Int → Int → List Int → Int → Int → Bool → List (List Int) → List Int → List (List Int) → List Int → List (List Int) → List Int → Option ((List (List Int)) × List Int)
 | 0, _, _, _, _, _, _, _, _, _, _, _, _, _ => none
 | k + 1, x5, x6, x8, x9, x10, x11, x66, x206000, x206001, x207000, x207001, x209000, x209001 => if x66 = true then (if 0 ≤ (wrap64 ((wrap64 (x8 - x5)) + 2)) then (if (wrap64 ((wrap64 (x8 - x5)) + 2)) < (x207000.length : Int) then (if 0 ≤ (wrap64 ((wrap64 (x10 - x5)) + 2)) then (if (wrap64 ((wrap64 (x10 - x5)) + 2)) < ((rd_L3 x207000 (wrap64 ((wrap64 (x8 - x5)) + 2))).length : Int) then (if x9.length < 17592186044416 then (spec_l20Glued.l1 k x5 x6 x8 (x9 ++ [rd (rd_L3 x207000 (wrap64 ((wrap64 (x8 - x5)) + 2))) (wrap64 ((wrap64 (x10 - x5)) + 2))]) (wrap64 (x10 + 1)) x206000 x206001 x207000 x207001 x209000 x209001) else (none)) else (none)) else (none)) else (none)) else (none)) else (if x8 = x10 then (if x9.length < 17592186044416 then (spec_l20Glued.l1 k x5 x6 x8 (x9 ++ [1]) (wrap64 (x10 + 1)) x206000 x206001 x207000 x207001 x209000 x209001) else (none)) else (if x9.length < 17592186044416 then (spec_l20Glued.l1 k x5 x6 x8 (x9 ++ [x11]) (wrap64 (x10 + 1)) x206000 x206001 x207000 x207001 x209000 x209001) else (none)))
end
def spec_l20Glued.f (k : Nat) (l0_0 : List (List Int)) (l0_1 : List Int) (l1_0 : List (List Int)) (l1_1 : List Int) : Option ((List (List Int)) × List Int) := spec_l20Glued.l0 k (l0_1.length : Int) (l1_1.length : Int) 0 l0_0 l0_1 l1_0 l1_1 ([] : List (List Int)) ([] : List Int)
theorem spec_l20Glued.mono_l : ∀ k, (∀ y0 y1 y2 y3 y4 y5 y6 y7 y8, LeO (spec_l20Glued.l0 k y0 y1 y2 y3 y4 y5 y6 y7 y8) (spec_l20Glued.l0 (k + 1) y0 y1 y2 y3 y4 y5 y6 y7 y8)) ∧ (∀ y0 y1 y2 y3 y4 y5 y6 y7 y8 y9 y10, LeO (spec_l20Glued.l1 k y0 y1 y2 y3 y4 y5 y6 y7 y8 y9 y10) (spec_l20Glued.l1 (k + 1) y0 y1 y2 y3 y4 y5 y6 y7 y8 y9 y10)) ∧ (∀ y0 y1 y2 y3 y4 y5 y6 y7 y8 y9 y10 y11 y12, LeO (spec_l20Glued.j2 k y0 y1 y2 y3 y4 y5 y6 y7 y8 y9 y10 y11 y12) (spec_l20Glued.j2 (k + 1) y0 y1 y2 y3 y4 y5 y6 y7 y8 y9 y10 y11 y12)) ∧ (∀ y0 y1 y2 y3 y4 y5 y6 y7 y8 y9 y10 y11 y12, LeO (spec_l20Glued.j3 k y0 y1 y2 y3 y4 y5 y6 y7 y8 y9 y10 y11 y12) (spec_l20Glued.j3 (k + 1) y0 y1 y2 y3 y4 y5 y6 y7 y8 y9 y10 y11 y12)) ∧ (∀ y0 y1 y2 y3 y4 y5 y6 y7 y8 y9 y10 y11 y12, LeO (spec_l20Glued.j4 k y0 y1 y2 y3 y4 y5 y6 y7 y8 y9 y10 y11 y12) (spec_l20Glued.j4 (k + 1) y0 y1 y2 y3 y4 y5 y6 y7 y8 y9 y10 y11 y12))
 | 0 => ⟨fun _ _ _ _ _ _ _ _ _ r h => by simp [spec_l20Glued.l0] at h, fun _ _ _ _ _ _ _ _ _ _ _ r h => by simp [spec_l20Glued.l1] at h, fun _ _ _ _ _ _ _ _ _ _ _ _ _ r h => by simp [spec_l20Glued.j2] at h, fun _ _ _ _ _ _ _ _ _ _ _ _ _ r h => by simp [spec_l20Glued.j3] at h, fun _ _ _ _ _ _ _ _ _ _ _ _ _ r h => by simp [spec_l20Glued.j4] at h⟩
 | k + 1 => by
  obtain ⟨ih0, ih1, ih2, ih3, ih4⟩ := spec_l20Glued.mono_l k
  refine ⟨?_, ?_, ?_, ?_, ?_⟩
  ·intro y0 y1 y2 y3 y4 y5 y6 y7 y8
   unfold spec_l20Glued.l0
   repeat' first
   | (with_reducible exact ih0 _ _ _ _ _ _ _ _ _)
   | (with_reducible exact ih1 _ _ _ _ _ _ _ _ _ _ _)
   | (with_reducible exact ih2 _ _ _ _ _ _ _ _ _ _ _ _ _)
   | (with_reducible exact ih3 _ _ _ _ _ _ _ _ _ _ _ _ _)
   | (with_reducible exact ih4 _ _ _ _ _ _ _ _ _ _ _ _ _)
   | (with_reducible exact LeO.refl _)
   | (with_reducible exact LeO.none _)
   | (with_reducible refine LeO.ite ?_ ?_)
   | (with_reducible refine LeO.bind ?_ (fun _ => ?_))
   | exact ih0 _ _ _ _ _ _ _ _ _
   | exact ih1 _ _ _ _ _ _ _ _ _ _ _
   | exact ih2 _ _ _ _ _ _ _ _ _ _ _ _ _
   | exact ih3 _ _ _ _ _ _ _ _ _ _ _ _ _
   | exact ih4 _ _ _ _ _ _ _ _ _ _ _ _ _
   | exact LeO.none _
   | refine LeO.ite ?_ ?_
   | refine LeO.bind ?_ (fun _ => ?_)
  ·intro y0 y1 y2 y3 y4 y5 y6 y7 y8 y9 y10
   unfold spec_l20Glued.l1
   repeat' first
   | (with_reducible exact ih0 _ _ _ _ _ _ _ _ _)
   | (with_reducible exact ih1 _ _ _ _ _ _ _ _ _ _ _)
   | (with_reducible exact ih2 _ _ _ _ _ _ _ _ _ _ _ _ _)
   | (with_reducible exact ih3 _ _ _ _ _ _ _ _ _ _ _ _ _)
   | (with_reducible exact ih4 _ _ _ _ _ _ _ _ _ _ _ _ _)
   | (with_reducible exact LeO.refl _)
   | (with_reducible exact LeO.none _)
   | (with_reducible refine LeO.ite ?_ ?_)
   | (with_reducible refine LeO.bind ?_ (fun _ => ?_))
   | exact ih0 _ _ _ _ _ _ _ _ _
   | exact ih1 _ _ _ _ _ _ _ _ _ _ _
   | exact ih2 _ _ _ _ _ _ _ _ _ _ _ _ _
   | exact ih3 _ _ _ _ _ _ _ _ _ _ _ _ _
   | exact ih4 _ _ _ _ _ _ _ _ _ _ _ _ _
   | exact LeO.none _
   | refine LeO.ite ?_ ?_
   | refine LeO.bind ?_ (fun _ => ?_)
  ·intro y0 y1 y2 y3 y4 y5 y6 y7 y8 y9 y10 y11 y12
   unfold spec_l20Glued.j2
   repeat' first
   | (with_reducible exact ih0 _ _ _ _ _ _ _ _ _)
   | (with_reducible exact ih1 _ _ _ _ _ _ _ _ _ _ _)
   | (with_reducible exact ih2 _ _ _ _ _ _ _ _ _ _ _ _ _)
   | (with_reducible exact ih3 _ _ _ _ _ _ _ _ _ _ _ _ _)
   | (with_reducible exact ih4 _ _ _ _ _ _ _ _ _ _ _ _ _)
   | (with_reducible exact LeO.refl _)
   | (with_reducible exact LeO.none _)
   | (with_reducible refine LeO.ite ?_ ?_)
   | (with_reducible refine LeO.bind ?_ (fun _ => ?_))
   | exact ih0 _ _ _ _ _ _ _ _ _
   | exact ih1 _ _ _ _ _ _ _ _ _ _ _
   | exact ih2 _ _ _ _ _ _ _ _ _ _ _ _ _
   | exact ih3 _ _ _ _ _ _ _ _ _ _ _ _ _
   | exact ih4 _ _ _ _ _ _ _ _ _ _ _ _ _
   | exact LeO.none _
   | refine LeO.ite ?_ ?_
   | refine LeO.bind ?_ (fun _ => ?_)
  ·intro y0 y1 y2 y3 y4 y5 y6 y7 y8 y9 y10 y11 y12
   unfold spec_l20Glued.j3
   repeat' first
   | (with_reducible exact ih0 _ _ _ _ _ _ _ _ _)
   | (with_reducible exact ih1 _ _ _ _ _ _ _ _ _ _ _)
   | (with_reducible exact ih2 _ _ _ _ _ _ _ _ _ _ _ _ _)
   | (with_reducible exact ih3 _ _ _ _ _ _ _ _ _ _ _ _ _)
   | (with_reducible exact ih4 _ _ _ _ _ _ _ _ _ _ _ _ _)
   | (with_reducible exact LeO.refl _)
   | (with_reducible exact LeO.none _)
   | (with_reducible refine LeO.ite ?_ ?_)
   | (with_reducible refine LeO.bind ?_ (fun _ => ?_))
   | exact ih0 _ _ _ _ _ _ _ _ _
   | exact ih1 _ _ _ _ _ _ _ _ _ _ _
   | exact ih2 _ _ _ _ _ _ _ _ _ _ _ _ _
   | exact ih3 _ _ _ _ _ _ _ _ _ _ _ _ _
   | exact ih4 _ _ _ _ _ _ _ _ _ _ _ _ _
   | exact LeO.none _
   | refine LeO.ite ?_ ?_
   | refine LeO.bind ?_ (fun _ => ?_)
  ·intro y0 y1 y2 y3 y4 y5 y6 y7 y8 y9 y10 y11 y12
   unfold spec_l20Glued.j4
   repeat' first
   | (with_reducible exact ih0 _ _ _ _ _ _ _ _ _)
   | (with_reducible exact ih1 _ _ _ _ _ _ _ _ _ _ _)
   | (with_reducible exact ih2 _ _ _ _ _ _ _ _ _ _ _ _ _)
   | (with_reducible exact ih3 _ _ _ _ _ _ _ _ _ _ _ _ _)
   | (with_reducible exact ih4 _ _ _ _ _ _ _ _ _ _ _ _ _)
   | (with_reducible exact LeO.refl _)
   | (with_reducible exact LeO.none _)
   | (with_reducible refine LeO.ite ?_ ?_)
   | (with_reducible refine LeO.bind ?_ (fun _ => ?_))
   | exact ih0 _ _ _ _ _ _ _ _ _
   | exact ih1 _ _ _ _ _ _ _ _ _ _ _
   | exact ih2 _ _ _ _ _ _ _ _ _ _ _ _ _
   | exact ih3 _ _ _ _ _ _ _ _ _ _ _ _ _
   | exact ih4 _ _ _ _ _ _ _ _ _ _ _ _ _
   | exact LeO.none _
   | refine LeO.ite ?_ ?_
   | refine LeO.bind ?_ (fun _ => ?_)
theorem spec_l20Glued.mono : ∀ a0 a1 a2 a3 k, LeO (spec_l20Glued.f k a0 a1 a2 a3) (spec_l20Glued.f (k + 1) a0 a1 a2 a3) := by
 intro a0 a1 a2 a3 k
 obtain ⟨ih0, ih1, ih2, ih3, ih4⟩ := spec_l20Glued.mono_l k
 unfold spec_l20Glued.f
 repeat' first
   | (with_reducible exact ih0 _ _ _ _ _ _ _ _ _)
   | (with_reducible exact ih1 _ _ _ _ _ _ _ _ _ _ _)
   | (with_reducible exact ih2 _ _ _ _ _ _ _ _ _ _ _ _ _)
   | (with_reducible exact ih3 _ _ _ _ _ _ _ _ _ _ _ _ _)
   | (with_reducible exact ih4 _ _ _ _ _ _ _ _ _ _ _ _ _)
   | (with_reducible exact LeO.refl _)
   | (with_reducible exact LeO.none _)
   | (with_reducible refine LeO.ite ?_ ?_)
   | (with_reducible refine LeO.bind ?_ (fun _ => ?_))
   | exact ih0 _ _ _ _ _ _ _ _ _
   | exact ih1 _ _ _ _ _ _ _ _ _ _ _
   | exact ih2 _ _ _ _ _ _ _ _ _ _ _ _ _
   | exact ih3 _ _ _ _ _ _ _ _ _ _ _ _ _
   | exact ih4 _ _ _ _ _ _ _ _ _ _ _ _ _
   | exact LeO.none _
   | refine LeO.ite ?_ ?_
   | refine LeO.bind ?_ (fun _ => ?_)
def spec_l20Glued.T22 : Bool × List (List Nat × List Nat) := (true, [([], []), ([0], [0]), ([], []), ([2], [2]), ([], []), ([], []), ([4, 5], [4, 5]), ([6], [6]), ([3, 7], [3, 7]), ([8], [8]), ([], []), ([9, 10], [9, 10]), ([11], [11]), ([12], [12]), ([1, 13], [1, 13]), ([0, 1, 2, 3, 4, 5, 6, 7, 8, 9, 10, 11, 12, 13, 14], []), ([15, 14, 14, 0, 1, 2, 3, 4, 5, 6, 7, 8, 9, 10, 11, 12, 13, 14], [14, 15])])
def spec_l20Glued.B22 : List Nat := [0, 1, 0, 4, 0, 0, 48, 112, 252, 508, 0, 2044, 4092, 8188, 16383, 32767, 65535]
theorem spec_l20Glued.tab22 : rtab .any (opsOf Tryz.f47 22) = spec_l20Glued.T22 := by kernel_rfl
theorem spec_l20Glued.bits22 : waitsOk spec_l20Glued.T22.2 spec_l20Glued.B22 = true := by kernel_rfl
def spec_l20Glued.T28 : Bool × List (List Nat × List Nat) := (true, [([], []), ([0], [0]), ([], []), ([2], [2]), ([], []), ([3, 4], [3, 4]), ([5], [5]), ([6], [6]), ([1, 7], [1, 7]), ([0, 1, 2, 3, 4, 5, 6, 7, 8], []), ([9, 8, 8, 0, 1, 2, 3, 4, 5, 6, 7, 8], [8, 9])])
def spec_l20Glued.B28 : List Nat := [0, 1, 0, 4, 0, 28, 60, 124, 255, 511, 1023]
theorem spec_l20Glued.tab28 : rtab .any (opsOf Tryz.f47 28) = spec_l20Glued.T28 := by kernel_rfl
theorem spec_l20Glued.bits28 : waitsOk spec_l20Glued.T28.2 spec_l20Glued.B28 = true := by kernel_rfl
set_option maxHeartbeats 8000000 in
set_option maxRecDepth 100000 in
theorem spec_l20Glued.calls (k : Nat) (A0_0 : Option Addr) (c0_0 : Nat) (l0_0 : List (List Int)) (A0_1 : Option Addr) (c0_1 : Nat) (l0_1 : List Int) (A1_0 : Option Addr) (c1_0 : Nat) (l1_0 : List (List Int)) (A1_1 : Option Addr) (c1_1 : Nat) (l1_1 : List Int) (r1 : List (List Int)) (r2 : List Int) (w : World) (hr0_0 : Kd.C (Kd.slice 3 (Kd.int .i64)) w A0_0 l0_0.length l0_0) (hc0_0 : l0_0.length ≤ c0_0) (hr0_1 : Kd.C (Kd.int .i64) w A0_1 l0_1.length l0_1) (hc0_1 : l0_1.length ≤ c0_1) (hr1_0 : Kd.C (Kd.slice 3 (Kd.int .i64)) w A1_0 l1_0.length l1_0) (hc1_0 : l1_0.length ≤ c1_0) (hr1_1 : Kd.C (Kd.int .i64) w A1_1 l1_1.length l1_1) (hc1_1 : l1_1.length ≤ c1_1) (h : spec_l20Glued.f k l0_0 l0_1 l1_0 l1_1 = some (r1, r2)) :
  Calls Tryz.prog 47 #[.agg #[.slice A0_0 l0_0.length c0_0, .slice A0_1 l0_1.length c0_1], .agg #[.slice A1_0 l1_0.length c1_0, .slice A1_1 l1_1.length c1_1]] w fun e w' => ∃ v0_ v1_ : Value, e = .returned (.agg #[v0_, v1_]) ∧ Kd.S (Kd.slice 3 (Kd.int .i64)) 28 w' w.heap.size (fun k_ => some k_ ≠ (v1_ : Value).ownBlock) v0_ r1 ∧ Kd.R (Kd.int .i64) 3 w' w.heap.size (fun _ => True) v1_ r2 ∧ Below w.heap.size w w' := by
 have hu30:=Tryz.underlying30;have u5:=zqm hr0_0;have a4f:=zqm hc0_0;clear hr0_0 hc0_0;have u6:=zqm hr0_1;have a4g:=zqm hc0_1;clear hr0_1 hc0_1;have u7:=zqm hr1_0;have a4h:=zqm hc1_0;clear hr1_0 hc1_0;have u8:=zqm hr1_1;have a4i:=zqm hc1_1;clear hr1_1 hc1_1;have HB:=zqm (Below.refl w.heap.size w);have H:(spec_l20Glued.l0 k (l0_1.length:Int) (l1_1.length:Int) 0 l0_0 l0_1 l1_0 l1_1 ([]:List (List Int)) ([]:List Int))=some (r1,r2):=h;clear h;have H':=zqm H;clear H
 go_enter Tryz.func47,Tryz.ntmps47
 go_wp2_with (first|((with_reducible refine gate_dst (N:=2) rfl ?_);refine box_event ?hg (N:=2) ?hd (cs:= #[.slice A0_0 l0_0.length c0_0,.slice A0_1 l0_1.length c0_1]) (t:=30) ?hr ?_;(case hd=>rfl);(case hg=>rfl);(case hr=> exact zq16);intro b7 hg w3 hbox hb;have d7:=zqm (below_step zq5 hb);have a2:=zqm (hbox);have a4b:=zqm ((by rw [hg];exact(below_size zq5):w.heap.size≤b7));have b1:=zqm ((by rw [hg];exact(below_size zq5):w.heap.size≤b7));clear HB;have HB:=d7;clear d7 hb hbox hg)|((with_reducible refine gate_dst (N:=3) rfl ?_);refine box_event ?hg (N:=3) ?hd (cs:= #[.slice A1_0 l1_0.length c1_0,.slice A1_1 l1_1.length c1_1]) (t:=30) ?hr ?_;(case hd=>rfl);(case hg=>rfl);(case hr=> exact zq16);intro b8 hg w4 hbox hb;have d7:=zqm (blk_below (g:=b7) (o:= .cells #[.slice A0_0 l0_0.length c0_0,.slice A0_1 l0_1.length c0_1] 30 (0,0)) (zqe a2.out) hb);have d8:=zqm (below_step zq24 hb);have a4:=zqm (hbox);have a4c:=zqm ((by rw [hg];exact(below_size zq24):w.heap.size≤b8));have b2:=zqm ((by rw [hg];exact(below_size zq24):w.heap.size≤b8));have e6:=zqm ((by rw [hg];exact Nat.ne_of_lt (blk_lt (g:=b7) (o:= .cells #[.slice A0_0 l0_0.length c0_0,.slice A0_1 l0_1.length c0_1] 30 (0,0)) (zqe a2.out)):b7≠b8));have e8:=zqm ((by rw [hg];exact Nat.ne_of_gt (blk_lt (g:=b7) (o:= .cells #[.slice A0_0 l0_0.length c0_0,.slice A0_1 l0_1.length c0_1] 30 (0,0)) (zqe a2.out)):b8≠b7));clear a2 HB;have a2:=d7;have HB:=d8;clear d7 d8 hb hbox hg)|((with_reducible refine gate_dst (N:=4) rfl ?_);refine box_event ?hg (N:=4) ?hd (cs:= #[.slice none 0 0,.slice none 0 0]) (t:=30) ?hr ?_;(case hd=>rfl);(case hg=>rfl);(case hr=> exact zq16);intro b9 hg w5 hbox hb;have d7:=zqm (blk_below (g:=b7) (o:= .cells #[.slice A0_0 l0_0.length c0_0,.slice A0_1 l0_1.length c0_1] 30 (0,0)) (zqe a2.out) hb);have d8:=zqm (blk_below (g:=b8) (o:= .cells #[.slice A1_0 l1_0.length c1_0,.slice A1_1 l1_1.length c1_1] 30 (0,0)) (zqe a4.out) hb);have e5:=zqm (below_step zq61 hb);have a7:=zqm (hbox);have a4d:=zqm ((by rw [hg];exact(below_size zq61):w.heap.size≤b9));have b3:=zqm ((by rw [hg];exact(below_size zq61):w.heap.size≤b9));have e7:=zqm ((by rw [hg];exact Nat.ne_of_lt (blk_lt (g:=b7) (o:= .cells #[.slice A0_0 l0_0.length c0_0,.slice A0_1 l0_1.length c0_1] 30 (0,0)) (zqe a2.out)):b7≠b9));have f0:=zqm ((by rw [hg];exact Nat.ne_of_gt (blk_lt (g:=b7) (o:= .cells #[.slice A0_0 l0_0.length c0_0,.slice A0_1 l0_1.length c0_1] 30 (0,0)) (zqe a2.out)):b9≠b7));have e9:=zqm ((by rw [hg];exact Nat.ne_of_lt (blk_lt (g:=b8) (o:= .cells #[.slice A1_0 l1_0.length c1_0,.slice A1_1 l1_1.length c1_1] 30 (0,0)) (zqe a4.out)):b8≠b9));have f1:=zqm ((by rw [hg];exact Nat.ne_of_gt (blk_lt (g:=b8) (o:= .cells #[.slice A1_0 l1_0.length c1_0,.slice A1_1 l1_1.length c1_1] 30 (0,0)) (zqe a4.out)):b9≠b8));clear a2 a4 HB;have a2:=d7;have a4:=d8;have HB:=e5;clear d7 d8 e5 hb hbox hg;have a6f:=e6.out;have a6i:=e8.out;have a6g:=e7.out;have a6j:=f0.out;have a3a:w5.cell? ⟨b7,0,none⟩=some (.slice A0_0 l0_0.length c0_0):=(blk_cell a2.out 0).trans rfl;have a3b:w5.cell? ⟨b7,1,none⟩=some (.slice A0_1 l0_1.length c0_1):=(blk_cell a2.out 1).trans rfl;have a3c:=blk_frozen a2.out 0;have a3d:=blk_frozen a2.out 1;have a6h:=e9.out;have a6k:=f1.out;have a0x:w5.cell? ⟨b8,0,none⟩=some (.slice A1_0 l1_0.length c1_0):=(blk_cell a4.out 0).trans rfl;have a0y:w5.cell? ⟨b8,1,none⟩=some (.slice A1_1 l1_1.length c1_1):=(blk_cell a4.out 1).trans rfl;have a1v:=blk_frozen a4.out 0;have a1w:=blk_frozen a4.out 1)|((with_reducible refine gate_dst (N:=7) rfl ?_);refine box_event ?hg (N:=7) ?hd (cs:= #[.slice none 0 0,.slice none 0 0]) (t:=30) ?hr ?_;(case hd=>rfl);(case hg=>rfl);(case hr=> exact zq16);intro a6 hg y3 hbox hb;have d7:=zqm (blk_below (g:=b7) (o:= .cells #[.slice A0_0 l0_0.length c0_0,.slice A0_1 l0_1.length c0_1] 30 (0,0)) (zqe a2.out) hb);have d8:=zqm (blk_below (g:=b8) (o:= .cells #[.slice A1_0 l1_0.length c1_0,.slice A1_1 l1_1.length c1_1] 30 (0,0)) (zqe a4.out) hb);have e5:=zqm (blk_below (g:=b9) (o:= .cells #[.slice none 0 0,.slice none 0 0] 30 (0,0)) (zqe a7.out) hb);have d9:=zqm (below_step zq50 hb);have a0:=zqm (hbox);have a4e:=zqm ((by rw [hg];exact(below_size zq50):w.heap.size≤a6));have b4:=zqm ((by rw [hg];exact(below_size zq50):w.heap.size≤a6));have c0:=zqm ((by rw [hg];exact Nat.ne_of_lt (blk_lt (g:=b7) (o:= .cells #[.slice A0_0 l0_0.length c0_0,.slice A0_1 l0_1.length c0_1] 30 (0,0)) (zqe a2.out)):b7≠a6));have c4:=zqm ((by rw [hg];exact Nat.ne_of_gt (blk_lt (g:=b7) (o:= .cells #[.slice A0_0 l0_0.length c0_0,.slice A0_1 l0_1.length c0_1] 30 (0,0)) (zqe a2.out)):a6≠b7));have c1:=zqm ((by rw [hg];exact Nat.ne_of_lt (blk_lt (g:=b8) (o:= .cells #[.slice A1_0 l1_0.length c1_0,.slice A1_1 l1_1.length c1_1] 30 (0,0)) (zqe a4.out)):b8≠a6));have c5:=zqm ((by rw [hg];exact Nat.ne_of_gt (blk_lt (g:=b8) (o:= .cells #[.slice A1_0 l1_0.length c1_0,.slice A1_1 l1_1.length c1_1] 30 (0,0)) (zqe a4.out)):a6≠b8));have c2:=zqm ((by rw [hg];exact Nat.ne_of_lt (blk_lt (g:=b9) (o:= .cells #[.slice none 0 0,.slice none 0 0] 30 (0,0)) (zqe a7.out)):b9≠a6));have d0:=zqm ((by rw [hg];exact Nat.ne_of_gt (blk_lt (g:=b9) (o:= .cells #[.slice none 0 0,.slice none 0 0] 30 (0,0)) (zqe a7.out)):a6≠b9));clear a2 a4 a7 HB;have a2:=d7;have a4:=d8;have a7:=e5;have HB:=d9;clear d7 d8 e5 d9 hb hbox hg;have a4v:=c4.out;have a5n:=c0.out;have a4w:=c5.out;have a5o:=c1.out;have a4x:=d0.out;have a5p:=c2.out;have a0z:y3.cell? ⟨a6,0,none⟩=some (.slice none 0 0):=(blk_cell a0.out 0).trans rfl;have a1a:y3.cell? ⟨a6,1,none⟩=some (.slice none 0 0):=(blk_cell a0.out 1).trans rfl;have a1x:=blk_frozen a0.out 0;have a1y:=blk_frozen a0.out 1))
 go_loopg [8] k (fun kq v8 w'=> ∃(a5:Int) (a8:List (List Int)) (a3:List Int) (b0:Value) (a1:Value),v8= .int .i64 a5∧Aside0 (spec_l20Glued.l0 kq (l0_1.length:Int) (l1_1.length:Int) a5 l0_0 l0_1 l1_0 l1_1 a8 a3=some (r1,r2))∧Aside0 (kq≤k)∧Aside0 (Kd.S (Kd.slice 3 (Kd.int .i64)) 28 w' w.heap.size (fun k_=>some k_≠(a1:Value).ownBlock) b0 a8)∧Aside0 (Kd.R (Kd.int .i64) 3 w' w.heap.size (fun _=>True) a1 a3)∧Aside0 (w'.heap[b7]? =some (.cells #[(.slice A0_0 l0_0.length c0_0),(.slice A0_1 l0_1.length c0_1)] 30 (0,0)))∧Aside0 (w'.heap[b8]? =some (.cells #[(.slice A1_0 l1_0.length c1_0),(.slice A1_1 l1_1.length c1_1)] 30 (0,0)))∧Aside0 (w'.heap[b9]? =some (.cells #[(.slice none 0 0),(.slice none 0 0)] 30 (0,0)))∧Aside0 (w'.heap[a6]? =some (.cells #[b0,a1] 30 (0,0)))∧Aside0 (Below w.heap.size w w'))
 case atStart=>exact⟨(0),(([]:List (List Int))),(([]:List Int)),(.slice none 0 0),(.slice none 0 0),zq8,H',⟨Nat.le_refl _⟩,⟨zq60⟩,⟨zq59⟩,⟨by refine zqe ?_;refine blk_far ?_ c0.out _;refine zqe ?_;refine blk_far ?_ c0.out _;refine zqe ?_;exact a2.out⟩,⟨zq110⟩,⟨by refine zqe ?_;refine blk_far ?_ c2.out _;refine zqe ?_;refine blk_far ?_ c2.out _;refine zqe ?_;exact a7.out⟩,⟨zq82⟩,⟨zq4⟩⟩
 case round=>
  clear H';obtain⟨a5,a8,a3,b0,a1,rfl,HA,d1,HO_209000,HO_209001,a2,a4,a7,a0,HB⟩:=hrel
  cases gk with
  |zero=>exact absurd HA.out (by simp [spec_l20Glued.l0])
  |succ k1=>
   have H:=HA.out;clear HA;simp only [spec_l20Glued.l0] at H
   by_cases i6:a5<(wrap64 ((wrap64 ((l0_1.length:Int)+(l1_1.length:Int))) - 2))
   ·rw [if_pos i6] at H;have w8:decide (a5<(wrap64 ((wrap64 ((l0_1.length:Int)+(l1_1.length:Int))) - 2)))=true:=decide_eq_true i6;clear i6;obtain⟨t3,l6⟩: ∃y_:List Int,y_=(([]:List Int)):=⟨_,rfl⟩;replace H:(spec_l20Glued.l1 k1 (l0_1.length:Int) (l1_1.length:Int) a5 t3 0 l0_0 l0_1 l1_0 l1_1 a8 a3)=some (r1,r2):=zqy l6 H;have p4:=zqm l6;clear l6;have H':=zqm H;clear H
    go_wp2_with (first|((with_reducible refine gate_dst (N:=27) rfl ?_);refine Kd.R_lit (Kd.int .i64) _ 3 ?hg (N:=27) ?hd (xs:=([]:List Int)) (inner:= []) (ok:=fun _=>True) (okp:=fun _=>True) ?hr ?hp (fun _ hk=>hk) trivial (Below.refl _ _) (Nat.le_refl _) (by simp) ?_;(case hd=>rfl);(case hg=>rfl);(case hr=> exact zq16);(case hp=>exact(Reps.none _ _));intro a6l w17 f3 hb hg_ hnew_;clear hg_ hnew_;(first|rw [← p4.out] at f3|(simp only [Int.reduceToNat] at f3;rw [← p4.out] at f3));replace HO_209000:=zqm (Kd.S_elder' (zqfS HO_209000.out) (Kd.R_base f3) hb);have d8:=zqm (Kd.R_elder' (zqfR HO_209001.out) (Kd.R_base f3) hb);have t9:=zqm (Kd.R_lower (Kd.R_new' f3 (Kd.R_lt (zqfR HO_209001.out))) (below_size zq4));replace a2:=zqm (blk_below (g:=b7) (o:= .cells #[.slice A0_0 l0_0.length c0_0,.slice A0_1 l0_1.length c0_1] 30 (0,0)) (zqe a2.out) hb);replace a4:=zqm (blk_below (g:=b8) (o:= .cells #[.slice A1_0 l1_0.length c1_0,.slice A1_1 l1_1.length c1_1] 30 (0,0)) (zqe a4.out) hb);replace a7:=zqm (blk_below (g:=b9) (o:= .cells #[.slice none 0 0,.slice none 0 0] 30 (0,0)) (zqe a7.out) hb);replace a0:=zqm (blk_below (g:=a6) (o:= .cells #[b0,a1] 30 (0,0)) (zqe a0.out) hb);replace HB:=zqm (below_step zq4 hb);clear HO_209001;have HO_209001:=d8;clear d8 hb f3))
    go_loopg [9,10] k1 (fun kq v9 v10 w'=> ∃(b6:List Int) (a9:Int),v10= .int .i64 a9∧Aside0 (spec_l20Glued.l1 kq (l0_1.length:Int) (l1_1.length:Int) a5 b6 a9 l0_0 l0_1 l1_0 l1_1 a8 a3=some (r1,r2))∧Aside0 (kq≤k1)∧Aside0 (Kd.R (Kd.int .i64) 3 w' w.heap.size (fun k_=>some k_≠(a1:Value).ownBlock) v9 b6)∧Aside0 (Kd.S (Kd.slice 3 (Kd.int .i64)) 28 w' w.heap.size (fun k_=>some k_≠(v9:Value).ownBlock∧some k_≠(a1:Value).ownBlock) b0 a8)∧Aside0 (Kd.R (Kd.int .i64) 3 w' w.heap.size (fun k_=>some k_≠(v9:Value).ownBlock) a1 a3)∧Aside0 (w'.heap[b7]? =some (.cells #[(.slice A0_0 l0_0.length c0_0),(.slice A0_1 l0_1.length c0_1)] 30 (0,0)))∧Aside0 (w'.heap[b8]? =some (.cells #[(.slice A1_0 l1_0.length c1_0),(.slice A1_1 l1_1.length c1_1)] 30 (0,0)))∧Aside0 (w'.heap[b9]? =some (.cells #[(.slice none 0 0),(.slice none 0 0)] 30 (0,0)))∧Aside0 (w'.heap[a6]? =some (.cells #[b0,a1] 30 (0,0)))∧Aside0 (Below w.heap.size w w'))
    case atStart=>exact⟨(t3),(0),zq8,H',⟨Nat.le_refl _⟩,⟨by refine zqfR ?_;exact Kd.R_mono t9.out (fun _ hk=>hk.2)⟩,⟨zq40⟩,⟨zq87⟩,⟨zqe a2.out⟩,⟨zqe a4.out⟩,⟨zqe a7.out⟩,⟨zqe a0.out⟩,⟨zq4⟩⟩
    case round=>
     clear H';obtain⟨b6,a9,rfl,HA,d2,HO_9,HO_209000,HO_209001,a2,a4,a7,a0,HB⟩:=hrel
     cases gk with
     |zero=>exact absurd HA.out (by simp [spec_l20Glued.l1])
     |succ k2=>
      have H:=HA.out;clear HA;simp only [spec_l20Glued.l1] at H
      by_cases i7:a9<(wrap64 ((wrap64 ((l0_1.length:Int)+(l1_1.length:Int))) - 2))
      ·rw [if_pos i7] at H;have w9:decide (a9<(wrap64 ((wrap64 ((l0_1.length:Int)+(l1_1.length:Int))) - 2)))=true:=decide_eq_true i7;clear i7;have n1:=zqm H;clear H
       go_upto_region 12 with (fail)
       go_cut [36] (fun v36 wc=> ∃(kq:Nat) (f8:Bool),v36= .bool f8∧Aside0 (spec_l20Glued.j2 kq (l0_1.length:Int) (l1_1.length:Int) a5 b6 a9 0 f8 l0_0 l0_1 l1_0 l1_1 a8 a3=some (r1,r2))∧Aside0 (kq≤k2)∧Aside0 (Kd.R (Kd.int .i64) 3 wc w.heap.size (fun k_=>some k_≠(a1:Value).ownBlock) u9 b6)∧Aside0 (Kd.S (Kd.slice 3 (Kd.int .i64)) 28 wc w.heap.size (fun k_=>some k_≠(u9:Value).ownBlock∧some k_≠(a1:Value).ownBlock) b0 a8)∧Aside0 (Kd.R (Kd.int .i64) 3 wc w.heap.size (fun k_=>some k_≠(u9:Value).ownBlock) a1 a3)∧Aside0 (wc.heap[b7]? =some (.cells #[(.slice A0_0 l0_0.length c0_0),(.slice A0_1 l0_1.length c0_1)] 30 (0,0)))∧Aside0 (wc.heap[b8]? =some (.cells #[(.slice A1_0 l1_0.length c1_0),(.slice A1_1 l1_1.length c1_1)] 30 (0,0)))∧Aside0 (wc.heap[b9]? =some (.cells #[(.slice none 0 0),(.slice none 0 0)] 30 (0,0)))∧Aside0 (wc.heap[a6]? =some (.cells #[b0,a1] 30 (0,0)))∧Aside0 (Below w.heap.size w wc))
       case first=>
        have H:=n1.out;clear n1
        by_cases h4:a5=0
        ·rw [if_pos h4] at H;have f5:(a5==0)=true:=beq_iff_eq.mpr h4;have x0:(a5 !=0)=false:=bne_eq_false_iff_eq.mpr h4;clear h4;(first|rw [f5]|(simp only [i64_w,i32_w];rw [f5])|skip);have H':=zqm H;clear H
         go_wp2
         go_meet
         case rel=>exact⟨_,(true),zq8,H',⟨by have:=d1.out;have:=d2.out;first|omega|exact Nat.le_refl _⟩,⟨zqfR HO_9.out⟩,⟨zqfS HO_209000.out⟩,⟨zqfR HO_209001.out⟩,⟨zqe a2.out⟩,⟨zqe a4.out⟩,⟨zqe a7.out⟩,⟨zqe a0.out⟩,⟨zq4⟩⟩
        ·rw [if_neg h4] at H;have f5:(a5==0)=false:=beq_eq_false_iff_ne.mpr h4;have x0:(a5 !=0)=true:=bne_iff_ne.mpr h4;(first|rw [f5]|(simp only [i64_w,i32_w];rw [f5])|skip);have H':=zqm H;clear H
         go_wp2
         go_meet
         case rel=>exact⟨_,((a9==(wrap64 ((wrap64 ((l0_1.length:Int)+(l1_1.length:Int))) - 3)))),zq8,H',⟨by have:=d1.out;have:=d2.out;first|omega|exact Nat.le_refl _⟩,⟨zqfR HO_9.out⟩,⟨zqfS HO_209000.out⟩,⟨zqfR HO_209001.out⟩,⟨zqe a2.out⟩,⟨zqe a4.out⟩,⟨zqe a7.out⟩,⟨zqe a0.out⟩,⟨zq4⟩⟩
       case rest=>
        clear n1;obtain⟨kq,f8,rfl,HA,d5,HO_9,HO_209000,HO_209001,a2,a4,a7,a0,HB⟩:=hcut
        cases kq with
        |zero=>exact absurd HA.out (by simp [spec_l20Glued.j2])
        |succ h0=>
         have H:=HA.out;clear HA;simp only [spec_l20Glued.j2] at H
         by_cases p5:f8=true
         ·subst p5;(have H1:(if b6.length<17592186044416 then(spec_l20Glued.l1 h0 (l0_1.length:Int) (l1_1.length:Int) a5 (b6 ++ [1]) (wrap64 (a9+1)) l0_0 l0_1 l1_0 l1_1 a8 a3) else(none))=some (r1,r2):=by rw [if_pos rfl] at H;exact H);clear H;have H:=H1;clear H1
          by_cases p6:b6.length<17592186044416
          ·rw [if_pos p6] at H;have LMc23:=zqm p6;clear p6;obtain⟨t4,l7⟩: ∃y_:List Int,y_=(b6 ++ [1]):=⟨_,rfl⟩;replace H:(spec_l20Glued.l1 h0 (l0_1.length:Int) (l1_1.length:Int) a5 t4 (wrap64 (a9+1)) l0_0 l0_1 l1_0 l1_1 a8 a3)=some (r1,r2):=zqy l7 H;have v0:=zqm l7;clear l7;have H':=zqm H;clear H
           go_wp2_with (first|((with_reducible refine gate_builtin (b:= .append) (xs:= #[.tmp 103,.tmp 105]) rfl ?_);at_builtin;refine Kd.R_append (Kd.int .i64) (w0:=w) w.heap.size rfl (.tmp 103) (.tmp 105) 28 3 (.int .i64 0) 8 rfl Tryz.underlying28 info3 rfl (by decide) (by omega) u9 b6 1 [.int .i64 1] (fun k_=>some k_≠(a1:Value).ownBlock) (fun _=>False) rfl rfl ?aP (fun _ hk=>hk.elim) ?aF ?aO ?aB ?aS ?aL ?_;(case aP=>exact rfl);(case aB=> exact zq13);(case aF=> exact zq53);(case aO=>exact(zqfR HO_9.out));(case aS=> exact zq12);(case aL=>have:=LMc23.out;omega);intro a6m w24 ho hb hg hat;rw [← v0.out] at ho;replace HO_209000:=zqm (Kd.S_after (ok:=(fun k_=>some k_≠(a1:Value).ownBlock)) zq40 hg hat);replace HO_209001:=zqm (Kd.R_after (ok:=(fun _=>True)) zq89 hg hat);replace a2:=zqm (blk_grown (g:=b7) (o:= .cells #[.slice A0_0 l0_0.length c0_0,.slice A0_1 l0_1.length c0_1] 30 (0,0)) (zqe a2.out) hg (Kd.R_ne HO_9.out a2.out (by decide)));replace a4:=zqm (blk_grown (g:=b8) (o:= .cells #[.slice A1_0 l1_0.length c1_0,.slice A1_1 l1_1.length c1_1] 30 (0,0)) (zqe a4.out) hg (Kd.R_ne HO_9.out a4.out (by decide)));replace a7:=zqm (blk_grown (g:=b9) (o:= .cells #[.slice none 0 0,.slice none 0 0] 30 (0,0)) (zqe a7.out) hg (Kd.R_ne HO_9.out a7.out (by decide)));replace a0:=zqm (blk_grown (g:=a6) (o:= .cells #[b0,a1] 30 (0,0)) (zqe a0.out) hg (Kd.R_ne HO_9.out a0.out (by decide)));replace HB:=zqm (hb);have u0:=zqm (ho);clear HO_9;clear ho hb hg hat))
           go_roundg h0
           (case measure=>have:=d1.out;have:=d2.out;have:=d5.out;omega);case rel=>exact⟨(t4),(wrap64 (a9+1)),zq8,H',⟨by have:=d1.out;have:=d2.out;have:=d5.out;omega⟩,⟨zqfR u0.out⟩,⟨zq40⟩,⟨zq87⟩,⟨zqe a2.out⟩,⟨zqe a4.out⟩,⟨zqe a7.out⟩,⟨zqe a0.out⟩,⟨zq4⟩⟩
          ·rw [if_neg p6] at H;exact absurd H (by simp)
         ·replace p5:=Bool.eq_false_iff.mpr p5;subst p5;(have H1:(if a5<(wrap64 ((l0_1.length:Int) - 1)) then(spec_l20Glued.j3 h0 (l0_1.length:Int) (l1_1.length:Int) a5 b6 a9 0 (decide (a9<(wrap64 ((l0_1.length:Int) - 1)))) l0_0 l0_1 l1_0 l1_1 a8 a3) else(spec_l20Glued.j3 h0 (l0_1.length:Int) (l1_1.length:Int) a5 b6 a9 0 false l0_0 l0_1 l1_0 l1_1 a8 a3))=some (r1,r2):=by rw [if_neg (show¬(false=true) by decide)] at H;exact H);clear H;have H:=H1;clear H1;have n2:=zqm H;clear H
          go_upto_region 14 with (fail)
          go_cut [47] (fun v47 wc=> ∃(kq:Nat) (f9:Bool),v47= .bool f9∧Aside0 (spec_l20Glued.j3 kq (l0_1.length:Int) (l1_1.length:Int) a5 b6 a9 0 f9 l0_0 l0_1 l1_0 l1_1 a8 a3=some (r1,r2))∧Aside0 (kq≤h0)∧Aside0 (Kd.R (Kd.int .i64) 3 wc w.heap.size (fun k_=>some k_≠(a1:Value).ownBlock) u9 b6)∧Aside0 (Kd.S (Kd.slice 3 (Kd.int .i64)) 28 wc w.heap.size (fun k_=>some k_≠(u9:Value).ownBlock∧some k_≠(a1:Value).ownBlock) b0 a8)∧Aside0 (Kd.R (Kd.int .i64) 3 wc w.heap.size (fun k_=>some k_≠(u9:Value).ownBlock) a1 a3)∧Aside0 (wc.heap[b7]? =some (.cells #[(.slice A0_0 l0_0.length c0_0),(.slice A0_1 l0_1.length c0_1)] 30 (0,0)))∧Aside0 (wc.heap[b8]? =some (.cells #[(.slice A1_0 l1_0.length c1_0),(.slice A1_1 l1_1.length c1_1)] 30 (0,0)))∧Aside0 (wc.heap[b9]? =some (.cells #[(.slice none 0 0),(.slice none 0 0)] 30 (0,0)))∧Aside0 (wc.heap[a6]? =some (.cells #[b0,a1] 30 (0,0)))∧Aside0 (Below w.heap.size w wc))
          case first=>
           have H:=n2.out;clear n2
           by_cases i8:a5<(wrap64 ((l0_1.length:Int) - 1))
           ·rw [if_pos i8] at H;have f6:decide (a5<(wrap64 ((l0_1.length:Int) - 1)))=true:=decide_eq_true i8;clear i8;(first|rw [f6]|(simp only [i64_w,i32_w];rw [f6])|skip);have H':=zqm H;clear H
            go_wp2
            go_meet
            case rel=>exact⟨_,(decide (a9<(wrap64 ((l0_1.length:Int) - 1)))),zq8,H',⟨zq141⟩,⟨zqfR HO_9.out⟩,⟨zqfS HO_209000.out⟩,⟨zqfR HO_209001.out⟩,⟨zqe a2.out⟩,⟨zqe a4.out⟩,⟨zqe a7.out⟩,⟨zqe a0.out⟩,⟨zq4⟩⟩
           ·rw [if_neg i8] at H;have f6:decide (a5<(wrap64 ((l0_1.length:Int) - 1)))=false:=decide_eq_false i8;clear i8;(first|rw [f6]|(simp only [i64_w,i32_w];rw [f6])|skip);have H':=zqm H;clear H
            go_wp2
            go_meet
            case rel=>exact⟨_,(false),zq8,H',⟨zq141⟩,⟨zqfR HO_9.out⟩,⟨zqfS HO_209000.out⟩,⟨zqfR HO_209001.out⟩,⟨zqe a2.out⟩,⟨zqe a4.out⟩,⟨zqe a7.out⟩,⟨zqe a0.out⟩,⟨zq4⟩⟩
          case rest=>
           clear n2;obtain⟨kq,f9,rfl,HA,e0,HO_9,HO_209000,HO_209001,a2,a4,a7,a0,HB⟩:=hcut
           cases kq with
           |zero=>exact absurd HA.out (by simp [spec_l20Glued.j3])
           |succ f4=>
            have H:=HA.out;clear HA;simp only [spec_l20Glued.j3] at H
            by_cases p7:f9=true
            ·subst p7;(have H1:(if 0≤a5 then(if a5<(l0_0.length:Int) then(if 0≤a9 then(if a9<((rd_L3 l0_0 a5).length:Int) then(if b6.length<17592186044416 then(spec_l20Glued.l1 f4 (l0_1.length:Int) (l1_1.length:Int) a5 (b6 ++ [rd (rd_L3 l0_0 a5) a9]) (wrap64 (a9+1)) l0_0 l0_1 l1_0 l1_1 a8 a3) else(none)) else(none)) else(none)) else(none)) else(none))=some (r1,r2):=by rw [if_pos rfl] at H;exact H);clear H;have H:=H1;clear H1
             by_cases p8:0≤a5
             ·rw [if_pos p8] at H;have a4l:decide (0≤a5)=true:=decide_eq_true p8;clear p8
              by_cases p9:a5<(l0_0.length:Int)
              ·rw [if_pos p9] at H;have a4m:decide (a5<(l0_0.length:Int))=true:=decide_eq_true p9;clear p9
               by_cases q0:0≤a9
               ·rw [if_pos q0] at H;have a4n:decide (0≤a9)=true:=decide_eq_true q0;clear q0
                by_cases q1:a9<((rd_L3 l0_0 a5).length:Int)
                ·rw [if_pos q1] at H;have a4o:decide (a9<((rd_L3 l0_0 a5).length:Int))=true:=decide_eq_true q1;clear q1
                 by_cases q2:b6.length<17592186044416
                 ·rw [if_pos q2] at H;have LMc32:=zqm q2;clear q2;obtain⟨t5,l8⟩: ∃y_:List Int,y_=(b6 ++ [rd (rd_L3 l0_0 a5) a9]):=⟨_,rfl⟩;replace H:(spec_l20Glued.l1 f4 (l0_1.length:Int) (l1_1.length:Int) a5 t5 (wrap64 (a9+1)) l0_0 l0_1 l1_0 l1_1 a8 a3)=some (r1,r2):=zqy l8 H;have v1:=zqm l8;clear l8;have H':=zqm H;clear H;have a4y:=e6.out;have a5q:=e8.out;have a4z:=e7.out;have a5r:=f0.out;have a5a:=c0.out;have a5s:=c4.out;have a1b:wc.cell? ⟨b7,0,none⟩=some (.slice A0_0 l0_0.length c0_0):=(blk_cell a2.out 0).trans rfl;have a1c:wc.cell? ⟨b7,1,none⟩=some (.slice A0_1 l0_1.length c0_1):=(blk_cell a2.out 1).trans rfl;have a1z:=blk_frozen a2.out 0;have a2a:=blk_frozen a2.out 1;have n6:0≤(a5:Int):=zqo;have o2:a5<(l0_0.length:Int):=zqo;obtain⟨w6,a2u,a2y,y8,g6,j7,j5⟩:=at_L3 u5.out a5 n6 o2
                  cases y8
                  replace g6:=(HB.out.cell (World.block_lt_of_cell? w _ g6)).trans g6;have s2:=zqm j5;have a0v:=zqm j7;clear j5 j7;replace n6:=eq_true n6;replace o2:=eq_true o2;have n7:0≤(a9:Int):=zqo;have o3:a9<((rd_L3 l0_0 a5).length:Int):=zqo;obtain⟨a4j,y9,g7⟩:=Kd.at_int s2.out a9 n7 o3
                  cases y9
                  replace g7:=(HB.out.cell (World.block_lt_of_cell? w _ g7)).trans g7;replace n7:=eq_true n7;replace o3:=eq_true o3
                  go_wp2_with (first|((with_reducible refine gate_builtin (b:= .append) (xs:= #[.tmp 103,.tmp 105]) rfl ?_);at_builtin;refine Kd.R_append (Kd.int .i64) (w0:=w) w.heap.size rfl (.tmp 103) (.tmp 105) 28 3 (.int .i64 0) 8 rfl Tryz.underlying28 info3 rfl (by decide) (by omega) u9 b6 (rd (rd_L3 l0_0 a5) a9) [.int .i64 (rd (rd_L3 l0_0 a5) a9)] (fun k_=>some k_≠(a1:Value).ownBlock) (fun _=>False) rfl rfl ?aP (fun _ hk=>hk.elim) ?aF ?aO ?aB ?aS ?aL ?_;(case aP=>exact rfl);(case aB=> exact zq13);(case aF=> exact zq53);(case aO=>exact(zqfR HO_9.out));(case aS=> exact zq12);(case aL=>have:=LMc32.out;omega);intro a6n w37 ho hb hg hat;rw [← v1.out] at ho;replace HO_209000:=zqm (Kd.S_after (ok:=(fun k_=>some k_≠(a1:Value).ownBlock)) zq40 hg hat);replace HO_209001:=zqm (Kd.R_after (ok:=(fun _=>True)) zq89 hg hat);replace a2:=zqm (blk_grown (g:=b7) (o:= .cells #[.slice (some w6) l0_0.length c0_0,.slice A0_1 l0_1.length c0_1] 30 (0,0)) (zqe a2.out) hg (Kd.R_ne HO_9.out a2.out (by decide)));replace a4:=zqm (blk_grown (g:=b8) (o:= .cells #[.slice A1_0 l1_0.length c1_0,.slice A1_1 l1_1.length c1_1] 30 (0,0)) (zqe a4.out) hg (Kd.R_ne HO_9.out a4.out (by decide)));replace a7:=zqm (blk_grown (g:=b9) (o:= .cells #[.slice none 0 0,.slice none 0 0] 30 (0,0)) (zqe a7.out) hg (Kd.R_ne HO_9.out a7.out (by decide)));replace a0:=zqm (blk_grown (g:=a6) (o:= .cells #[b0,a1] 30 (0,0)) (zqe a0.out) hg (Kd.R_ne HO_9.out a0.out (by decide)));replace HB:=zqm (hb);have u1:=zqm (ho);clear HO_9;clear ho hb hg hat))
                  go_roundg f4
                  (case measure=>have:=d1.out;have:=d2.out;have:=d5.out;have:=e0.out;omega);case rel=>exact⟨(t5),(wrap64 (a9+1)),zq8,H',⟨by have:=d1.out;have:=d2.out;have:=d5.out;have:=e0.out;omega⟩,⟨zqfR u1.out⟩,⟨zq40⟩,⟨zq87⟩,⟨zqe a2.out⟩,⟨zqe a4.out⟩,⟨zqe a7.out⟩,⟨zqe a0.out⟩,⟨zq4⟩⟩
                 ·rw [if_neg q2] at H;exact absurd H (by simp)
                ·rw [if_neg q1] at H;exact absurd H (by simp)
               ·rw [if_neg q0] at H;exact absurd H (by simp)
              ·rw [if_neg p9] at H;exact absurd H (by simp)
             ·rw [if_neg p8] at H;exact absurd H (by simp)
            ·replace p7:=Bool.eq_false_iff.mpr p7;subst p7;(have H1:(if a5≥(wrap64 ((l0_1.length:Int) - 1)) then(if a9≥(wrap64 ((l0_1.length:Int) - 1)) then(spec_l20Glued.j4 f4 (l0_1.length:Int) (l1_1.length:Int) a5 b6 a9 0 (decide (a5<(wrap64 ((wrap64 ((l0_1.length:Int)+(l1_1.length:Int))) - 3)))) l0_0 l0_1 l1_0 l1_1 a8 a3) else(spec_l20Glued.j4 f4 (l0_1.length:Int) (l1_1.length:Int) a5 b6 a9 0 false l0_0 l0_1 l1_0 l1_1 a8 a3)) else(spec_l20Glued.j4 f4 (l0_1.length:Int) (l1_1.length:Int) a5 b6 a9 0 false l0_0 l0_1 l1_0 l1_1 a8 a3))=some (r1,r2):=by rw [if_neg (show¬(false=true) by decide)] at H;exact H);clear H;have H:=H1;clear H1;have n3:=zqm H;clear H
             go_upto_region 16 with (fail)
             go_cut [66] (fun v66 wc=> ∃(kq:Nat) (g0:Bool),v66= .bool g0∧Aside0 (spec_l20Glued.j4 kq (l0_1.length:Int) (l1_1.length:Int) a5 b6 a9 0 g0 l0_0 l0_1 l1_0 l1_1 a8 a3=some (r1,r2))∧Aside0 (kq≤f4)∧Aside0 (Kd.R (Kd.int .i64) 3 wc w.heap.size (fun k_=>some k_≠(a1:Value).ownBlock) u9 b6)∧Aside0 (Kd.S (Kd.slice 3 (Kd.int .i64)) 28 wc w.heap.size (fun k_=>some k_≠(u9:Value).ownBlock∧some k_≠(a1:Value).ownBlock) b0 a8)∧Aside0 (Kd.R (Kd.int .i64) 3 wc w.heap.size (fun k_=>some k_≠(u9:Value).ownBlock) a1 a3)∧Aside0 (wc.heap[b7]? =some (.cells #[(.slice A0_0 l0_0.length c0_0),(.slice A0_1 l0_1.length c0_1)] 30 (0,0)))∧Aside0 (wc.heap[b8]? =some (.cells #[(.slice A1_0 l1_0.length c1_0),(.slice A1_1 l1_1.length c1_1)] 30 (0,0)))∧Aside0 (wc.heap[b9]? =some (.cells #[(.slice none 0 0),(.slice none 0 0)] 30 (0,0)))∧Aside0 (wc.heap[a6]? =some (.cells #[b0,a1] 30 (0,0)))∧Aside0 (Below w.heap.size w wc))
             case first=>
              have H:=n3.out;clear n3
              by_cases i9:a5≥(wrap64 ((l0_1.length:Int) - 1))
              ·rw [if_pos i9] at H;have f7:decide ((wrap64 ((l0_1.length:Int) - 1))≤a5)=true:=decide_eq_true i9;clear i9;(first|rw [f7]|(simp only [i64_w,i32_w];rw [f7])|skip)
               by_cases j0:a9≥(wrap64 ((l0_1.length:Int) - 1))
               ·rw [if_pos j0] at H;have x1:decide ((wrap64 ((l0_1.length:Int) - 1))≤a9)=true:=decide_eq_true j0;clear j0;have H':=zqm H;clear H
                go_wp2
                go_meet
                case rel=>exact⟨_,(decide (a5<(wrap64 ((wrap64 ((l0_1.length:Int)+(l1_1.length:Int))) - 3)))),zq8,H',⟨zq104⟩,⟨zqfR HO_9.out⟩,⟨zqfS HO_209000.out⟩,⟨zqfR HO_209001.out⟩,⟨zqe a2.out⟩,⟨zqe a4.out⟩,⟨zqe a7.out⟩,⟨zqe a0.out⟩,⟨zq4⟩⟩
               ·rw [if_neg j0] at H;have x1:decide ((wrap64 ((l0_1.length:Int) - 1))≤a9)=false:=decide_eq_false j0;clear j0;have H':=zqm H;clear H
                go_wp2
                go_meet
                case rel=>exact⟨_,(false),zq8,H',⟨zq104⟩,⟨zqfR HO_9.out⟩,⟨zqfS HO_209000.out⟩,⟨zqfR HO_209001.out⟩,⟨zqe a2.out⟩,⟨zqe a4.out⟩,⟨zqe a7.out⟩,⟨zqe a0.out⟩,⟨zq4⟩⟩
              ·rw [if_neg i9] at H;have f7:decide ((wrap64 ((l0_1.length:Int) - 1))≤a5)=false:=decide_eq_false i9;clear i9;(first|rw [f7]|(simp only [i64_w,i32_w];rw [f7])|skip);have H':=zqm H;clear H
               go_wp2
               go_meet
               case rel=>exact⟨_,(false),zq8,H',⟨zq104⟩,⟨zqfR HO_9.out⟩,⟨zqfS HO_209000.out⟩,⟨zqfR HO_209001.out⟩,⟨zqe a2.out⟩,⟨zqe a4.out⟩,⟨zqe a7.out⟩,⟨zqe a0.out⟩,⟨zq4⟩⟩
             case rest=>
              clear n3;obtain⟨kq,g0,rfl,HA,g3,HO_9,HO_209000,HO_209001,a2,a4,a7,a0,HB⟩:=hcut
              cases kq with
              |zero=>exact absurd HA.out (by simp [spec_l20Glued.j4])
              |succ e1=>
               have H:=HA.out;clear HA;simp only [spec_l20Glued.j4] at H
               by_cases q3:g0=true
               ·subst q3;(have H1:(if 0≤(wrap64 ((wrap64 (a5 - (l0_1.length:Int)))+2)) then(if(wrap64 ((wrap64 (a5 - (l0_1.length:Int)))+2))<(l1_0.length:Int) then(if 0≤(wrap64 ((wrap64 (a9 - (l0_1.length:Int)))+2)) then(if(wrap64 ((wrap64 (a9 - (l0_1.length:Int)))+2))<((rd_L3 l1_0 (wrap64 ((wrap64 (a5 - (l0_1.length:Int)))+2))).length:Int) then(if b6.length<17592186044416 then(spec_l20Glued.l1 e1 (l0_1.length:Int) (l1_1.length:Int) a5 (b6 ++ [rd (rd_L3 l1_0 (wrap64 ((wrap64 (a5 - (l0_1.length:Int)))+2))) (wrap64 ((wrap64 (a9 - (l0_1.length:Int)))+2))]) (wrap64 (a9+1)) l0_0 l0_1 l1_0 l1_1 a8 a3) else(none)) else(none)) else(none)) else(none)) else(none))=some (r1,r2):=by rw [if_pos rfl] at H;exact H);clear H;have H:=H1;clear H1;obtain⟨c9,l4⟩: ∃j_:Int,(wrap64 ((wrap64 (a5 - (l0_1.length:Int)))+2))=j_:=⟨_,rfl⟩;(replace H:(if 0≤(c9) then(if(c9)<(l1_0.length:Int) then(if 0≤(wrap64 ((wrap64 (a9 - (l0_1.length:Int)))+2)) then(if(wrap64 ((wrap64 (a9 - (l0_1.length:Int)))+2))<((rd_L3 l1_0 (c9)).length:Int) then(if b6.length<17592186044416 then(spec_l20Glued.l1 e1 (l0_1.length:Int) (l1_1.length:Int) a5 (b6 ++ [rd (rd_L3 l1_0 (c9)) (wrap64 ((wrap64 (a9 - (l0_1.length:Int)))+2))]) (wrap64 (a9+1)) l0_0 l0_1 l1_0 l1_1 a8 a3) else(none)) else(none)) else(none)) else(none)) else(none))=some (r1,r2):=by first|(rw [l4] at H;exact H)|(simp only [l4] at H ⊢;exact H));have a3e:(IntKind.i64.wrap ((wrap64 (a5 - (l0_1.length:Int)))+2))=c9:=(i64_w _).trans l4
                by_cases q4:0≤(c9)
                ·rw [if_pos q4] at H;have a4p:decide (0≤(c9))=true:=decide_eq_true q4;clear q4
                 by_cases q5:(c9)<(l1_0.length:Int)
                 ·rw [if_pos q5] at H;have a4q:decide ((c9)<(l1_0.length:Int))=true:=decide_eq_true q5;clear q5;obtain⟨d6,l5⟩: ∃j_:Int,(wrap64 ((wrap64 (a9 - (l0_1.length:Int)))+2))=j_:=⟨_,rfl⟩;(replace H:(if 0≤(d6) then(if(d6)<((rd_L3 l1_0 (c9)).length:Int) then(if b6.length<17592186044416 then(spec_l20Glued.l1 e1 (l0_1.length:Int) (l1_1.length:Int) a5 (b6 ++ [rd (rd_L3 l1_0 (c9)) (d6)]) (wrap64 (a9+1)) l0_0 l0_1 l1_0 l1_1 a8 a3) else(none)) else(none)) else(none))=some (r1,r2):=by first|(rw [l5] at H;exact H)|(simp only [l5] at H ⊢;exact H));have a3f:(IntKind.i64.wrap ((wrap64 (a9 - (l0_1.length:Int)))+2))=d6:=(i64_w _).trans l5
                  by_cases q6:0≤(d6)
                  ·rw [if_pos q6] at H;have a4r:decide (0≤(d6))=true:=decide_eq_true q6;clear q6
                   by_cases q7:(d6)<((rd_L3 l1_0 (c9)).length:Int)
                   ·rw [if_pos q7] at H;have a4s:decide ((d6)<((rd_L3 l1_0 (c9)).length:Int))=true:=decide_eq_true q7;clear q7
                    by_cases q8:b6.length<17592186044416
                    ·rw [if_pos q8] at H;have LMc48:=zqm q8;clear q8;obtain⟨t6,l9⟩: ∃y_:List Int,y_=(b6 ++ [rd (rd_L3 l1_0 (c9)) (d6)]):=⟨_,rfl⟩;replace H:(spec_l20Glued.l1 e1 (l0_1.length:Int) (l1_1.length:Int) a5 t6 (wrap64 (a9+1)) l0_0 l0_1 l1_0 l1_1 a8 a3)=some (r1,r2):=zqy l9 H;have v2:=zqm l9;clear l9;have H':=zqm H;clear H;have a5b:=e8.out;have a5t:=e6.out;have a5c:=e9.out;have a5u:=f1.out;have a5d:=c1.out;have a5v:=c5.out;have a1d:wc.cell? ⟨b8,0,none⟩=some (.slice A1_0 l1_0.length c1_0):=(blk_cell a4.out 0).trans rfl;have a1e:wc.cell? ⟨b8,1,none⟩=some (.slice A1_1 l1_1.length c1_1):=(blk_cell a4.out 1).trans rfl;have a2b:=blk_frozen a4.out 0;have a2c:=blk_frozen a4.out 1;have n8:0≤((c9):Int):=zqo;have o4:(c9)<(l1_0.length:Int):=zqo;obtain⟨w7,a2v,a2z,z0,g8,j8,j6⟩:=at_L3 u7.out (c9) n8 o4
                     cases z0
                     replace g8:=(HB.out.cell (World.block_lt_of_cell? w _ g8)).trans g8;have s3:=zqm j6;have a0w:=zqm j8;clear j6 j8;replace n8:=eq_true n8;replace o4:=eq_true o4;have n9:0≤((d6):Int):=zqo;have o5:(d6)<((rd_L3 l1_0 (c9)).length:Int):=zqo;obtain⟨a4k,z1,g9⟩:=Kd.at_int s3.out (d6) n9 o5
                     cases z1
                     replace g9:=(HB.out.cell (World.block_lt_of_cell? w _ g9)).trans g9;replace n9:=eq_true n9;replace o5:=eq_true o5
                     go_wp2_with (first|((with_reducible refine gate_builtin (b:= .append) (xs:= #[.tmp 103,.tmp 105]) rfl ?_);at_builtin;refine Kd.R_append (Kd.int .i64) (w0:=w) w.heap.size rfl (.tmp 103) (.tmp 105) 28 3 (.int .i64 0) 8 rfl Tryz.underlying28 info3 rfl (by decide) (by omega) u9 b6 (rd (rd_L3 l1_0 (c9)) (d6)) [.int .i64 (rd (rd_L3 l1_0 (c9)) (d6))] (fun k_=>some k_≠(a1:Value).ownBlock) (fun _=>False) rfl rfl ?aP (fun _ hk=>hk.elim) ?aF ?aO ?aB ?aS ?aL ?_;(case aP=>exact rfl);(case aB=> exact zq13);(case aF=> exact zq53);(case aO=>exact(zqfR HO_9.out));(case aS=> exact zq12);(case aL=>have:=LMc48.out;omega);intro a6o w53 ho hb hg hat;rw [← v2.out] at ho;replace HO_209000:=zqm (Kd.S_after (ok:=(fun k_=>some k_≠(a1:Value).ownBlock)) zq40 hg hat);replace HO_209001:=zqm (Kd.R_after (ok:=(fun _=>True)) zq89 hg hat);replace a2:=zqm (blk_grown (g:=b7) (o:= .cells #[.slice A0_0 l0_0.length c0_0,.slice A0_1 l0_1.length c0_1] 30 (0,0)) (zqe a2.out) hg (Kd.R_ne HO_9.out a2.out (by decide)));replace a4:=zqm (blk_grown (g:=b8) (o:= .cells #[.slice (some w7) l1_0.length c1_0,.slice A1_1 l1_1.length c1_1] 30 (0,0)) (zqe a4.out) hg (Kd.R_ne HO_9.out a4.out (by decide)));replace a7:=zqm (blk_grown (g:=b9) (o:= .cells #[.slice none 0 0,.slice none 0 0] 30 (0,0)) (zqe a7.out) hg (Kd.R_ne HO_9.out a7.out (by decide)));replace a0:=zqm (blk_grown (g:=a6) (o:= .cells #[b0,a1] 30 (0,0)) (zqe a0.out) hg (Kd.R_ne HO_9.out a0.out (by decide)));replace HB:=zqm (hb);have u2:=zqm (ho);clear HO_9;clear ho hb hg hat))
                     go_roundg e1
                     (case measure=> exact zq76);case rel=>exact⟨(t6),(wrap64 (a9+1)),zq8,H',⟨zq76⟩,⟨zqfR u2.out⟩,⟨zq40⟩,⟨zq87⟩,⟨zqe a2.out⟩,⟨zqe a4.out⟩,⟨zqe a7.out⟩,⟨zqe a0.out⟩,⟨zq4⟩⟩
                    ·rw [if_neg q8] at H;exact absurd H (by simp)
                   ·rw [if_neg q7] at H;exact absurd H (by simp)
                  ·rw [if_neg q6] at H;exact absurd H (by simp)
                 ·rw [if_neg q5] at H;exact absurd H (by simp)
                ·rw [if_neg q4] at H;exact absurd H (by simp)
               ·replace q3:=Bool.eq_false_iff.mpr q3;subst q3;(have H1:(if a5=a9 then(if b6.length<17592186044416 then(spec_l20Glued.l1 e1 (l0_1.length:Int) (l1_1.length:Int) a5 (b6 ++ [1]) (wrap64 (a9+1)) l0_0 l0_1 l1_0 l1_1 a8 a3) else(none)) else(if b6.length<17592186044416 then(spec_l20Glued.l1 e1 (l0_1.length:Int) (l1_1.length:Int) a5 (b6 ++ [0]) (wrap64 (a9+1)) l0_0 l0_1 l1_0 l1_1 a8 a3) else(none)))=some (r1,r2):=by rw [if_neg (show¬(false=true) by decide)] at H;exact H);clear H;have H:=H1;clear H1
                by_cases h5:a5=a9
                ·rw [if_pos h5] at H;have x2:(a5==a9)=true:=beq_iff_eq.mpr h5;have x3:(a5 !=a9)=false:=bne_eq_false_iff_eq.mpr h5;clear h5
                 by_cases q9:b6.length<17592186044416
                 ·rw [if_pos q9] at H;have LMc55:=zqm q9;clear q9;obtain⟨t7,m0⟩: ∃y_:List Int,y_=(b6 ++ [1]):=⟨_,rfl⟩;replace H:(spec_l20Glued.l1 e1 (l0_1.length:Int) (l1_1.length:Int) a5 t7 (wrap64 (a9+1)) l0_0 l0_1 l1_0 l1_1 a8 a3)=some (r1,r2):=zqy m0 H;have v3:=zqm m0;clear m0;have H':=zqm H;clear H
                  go_wp2_with (first|((with_reducible refine gate_builtin (b:= .append) (xs:= #[.tmp 103,.tmp 105]) rfl ?_);at_builtin;refine Kd.R_append (Kd.int .i64) (w0:=w) w.heap.size rfl (.tmp 103) (.tmp 105) 28 3 (.int .i64 0) 8 rfl Tryz.underlying28 info3 rfl (by decide) (by omega) u9 b6 1 [.int .i64 1] (fun k_=>some k_≠(a1:Value).ownBlock) (fun _=>False) rfl rfl ?aP (fun _ hk=>hk.elim) ?aF ?aO ?aB ?aS ?aL ?_;(case aP=>exact rfl);(case aB=> exact zq13);(case aF=> exact zq53);(case aO=>exact(zqfR HO_9.out));(case aS=> exact zq12);(case aL=>have:=LMc55.out;omega);intro a6p w56 ho hb hg hat;rw [← v3.out] at ho;replace HO_209000:=zqm (Kd.S_after (ok:=(fun k_=>some k_≠(a1:Value).ownBlock)) zq40 hg hat);replace HO_209001:=zqm (Kd.R_after (ok:=(fun _=>True)) zq89 hg hat);replace a2:=zqm (blk_grown (g:=b7) (o:= .cells #[.slice A0_0 l0_0.length c0_0,.slice A0_1 l0_1.length c0_1] 30 (0,0)) (zqe a2.out) hg (Kd.R_ne HO_9.out a2.out (by decide)));replace a4:=zqm (blk_grown (g:=b8) (o:= .cells #[.slice A1_0 l1_0.length c1_0,.slice A1_1 l1_1.length c1_1] 30 (0,0)) (zqe a4.out) hg (Kd.R_ne HO_9.out a4.out (by decide)));replace a7:=zqm (blk_grown (g:=b9) (o:= .cells #[.slice none 0 0,.slice none 0 0] 30 (0,0)) (zqe a7.out) hg (Kd.R_ne HO_9.out a7.out (by decide)));replace a0:=zqm (blk_grown (g:=a6) (o:= .cells #[b0,a1] 30 (0,0)) (zqe a0.out) hg (Kd.R_ne HO_9.out a0.out (by decide)));replace HB:=zqm (hb);have u3:=zqm (ho);clear HO_9;clear ho hb hg hat))
                  go_roundg e1
                  (case measure=> exact zq76);case rel=>exact⟨(t7),(wrap64 (a9+1)),zq8,H',⟨zq76⟩,⟨zqfR u3.out⟩,⟨zq40⟩,⟨zq87⟩,⟨zqe a2.out⟩,⟨zqe a4.out⟩,⟨zqe a7.out⟩,⟨zqe a0.out⟩,⟨zq4⟩⟩
                 ·rw [if_neg q9] at H;exact absurd H (by simp)
                ·rw [if_neg h5] at H;have x2:(a5==a9)=false:=beq_eq_false_iff_ne.mpr h5;have x3:(a5 !=a9)=true:=bne_iff_ne.mpr h5
                 by_cases r0:b6.length<17592186044416
                 ·rw [if_pos r0] at H;have LMc57:=zqm r0;clear r0;obtain⟨t8,m1⟩: ∃y_:List Int,y_=(b6 ++ [0]):=⟨_,rfl⟩;replace H:(spec_l20Glued.l1 e1 (l0_1.length:Int) (l1_1.length:Int) a5 t8 (wrap64 (a9+1)) l0_0 l0_1 l1_0 l1_1 a8 a3)=some (r1,r2):=zqy m1 H;have v4:=zqm m1;clear m1;have H':=zqm H;clear H
                  go_wp2_with (first|((with_reducible refine gate_builtin (b:= .append) (xs:= #[.tmp 103,.tmp 105]) rfl ?_);at_builtin;refine Kd.R_append (Kd.int .i64) (w0:=w) w.heap.size rfl (.tmp 103) (.tmp 105) 28 3 (.int .i64 0) 8 rfl Tryz.underlying28 info3 rfl (by decide) (by omega) u9 b6 0 [.int .i64 0] (fun k_=>some k_≠(a1:Value).ownBlock) (fun _=>False) rfl rfl ?aP (fun _ hk=>hk.elim) ?aF ?aO ?aB ?aS ?aL ?_;(case aP=>exact rfl);(case aB=> exact zq13);(case aF=> exact zq53);(case aO=>exact(zqfR HO_9.out));(case aS=> exact zq12);(case aL=>have:=LMc57.out;omega);intro a6q w58 ho hb hg hat;rw [← v4.out] at ho;replace HO_209000:=zqm (Kd.S_after (ok:=(fun k_=>some k_≠(a1:Value).ownBlock)) zq40 hg hat);replace HO_209001:=zqm (Kd.R_after (ok:=(fun _=>True)) zq89 hg hat);replace a2:=zqm (blk_grown (g:=b7) (o:= .cells #[.slice A0_0 l0_0.length c0_0,.slice A0_1 l0_1.length c0_1] 30 (0,0)) (zqe a2.out) hg (Kd.R_ne HO_9.out a2.out (by decide)));replace a4:=zqm (blk_grown (g:=b8) (o:= .cells #[.slice A1_0 l1_0.length c1_0,.slice A1_1 l1_1.length c1_1] 30 (0,0)) (zqe a4.out) hg (Kd.R_ne HO_9.out a4.out (by decide)));replace a7:=zqm (blk_grown (g:=b9) (o:= .cells #[.slice none 0 0,.slice none 0 0] 30 (0,0)) (zqe a7.out) hg (Kd.R_ne HO_9.out a7.out (by decide)));replace a0:=zqm (blk_grown (g:=a6) (o:= .cells #[b0,a1] 30 (0,0)) (zqe a0.out) hg (Kd.R_ne HO_9.out a0.out (by decide)));replace HB:=zqm (hb);have u4:=zqm (ho);clear HO_9;clear ho hb hg hat))
                  go_roundg e1
                  (case measure=> exact zq76);case rel=>exact⟨(t8),(wrap64 (a9+1)),zq8,H',⟨zq76⟩,⟨zqfR u4.out⟩,⟨zq40⟩,⟨zq87⟩,⟨zqe a2.out⟩,⟨zqe a4.out⟩,⟨zqe a7.out⟩,⟨zqe a0.out⟩,⟨zq4⟩⟩
                 ·rw [if_neg r0] at H;exact absurd H (by simp)
      ·rw [if_neg i7] at H;have w9:decide (a9<(wrap64 ((wrap64 ((l0_1.length:Int)+(l1_1.length:Int))) - 2)))=false:=decide_eq_false i7;clear i7
       by_cases r3:a8.length<5864062014805
       ·rw [if_pos r3] at H;have LMc59:=zqm r3;clear r3;obtain⟨b5,m2⟩: ∃y_:List (List Int),y_=(a8 ++ [b6]):=⟨_,rfl⟩;replace H:(if a5=0 then(if a3.length<17592186044416 then(spec_l20Glued.l0 k2 (l0_1.length:Int) (l1_1.length:Int) (wrap64 (a5+1)) l0_0 l0_1 l1_0 l1_1 b5 (a3 ++ [wrap64 ((wrap64 ((l0_1.length:Int)+(l1_1.length:Int))) - 3)])) else(none)) else(if a5=(wrap64 ((wrap64 ((l0_1.length:Int)+(l1_1.length:Int))) - 3)) then(if a3.length<17592186044416 then(spec_l20Glued.l0 k2 (l0_1.length:Int) (l1_1.length:Int) (wrap64 (a5+1)) l0_0 l0_1 l1_0 l1_1 b5 (a3 ++ [0])) else(none)) else(if a5<(wrap64 ((l0_1.length:Int) - 1)) then(if 0≤a5 then(if a5<(l0_1.length:Int) then(if a3.length<17592186044416 then(spec_l20Glued.l0 k2 (l0_1.length:Int) (l1_1.length:Int) (wrap64 (a5+1)) l0_0 l0_1 l1_0 l1_1 b5 (a3 ++ [rd l0_1 a5])) else(none)) else(none)) else(none)) else(if 0≤(wrap64 ((wrap64 (a5 - (l0_1.length:Int)))+2)) then(if(wrap64 ((wrap64 (a5 - (l0_1.length:Int)))+2))<(l1_1.length:Int) then(if a3.length<17592186044416 then(spec_l20Glued.l0 k2 (l0_1.length:Int) (l1_1.length:Int) (wrap64 (a5+1)) l0_0 l0_1 l1_0 l1_1 b5 (a3 ++ [wrap64 ((wrap64 ((rd l1_1 (wrap64 ((wrap64 (a5 - (l0_1.length:Int)))+2)))+(l0_1.length:Int))) - 2)])) else(none)) else(none)) else(none)))))=some (r1,r2):=zqy m2 H;have h2:=zqm m2;clear m2
        by_cases h6:a5=0
        ·rw [if_pos h6] at H;have x4:(a5==0)=true:=beq_iff_eq.mpr h6;have x5:(a5 !=0)=false:=bne_eq_false_iff_eq.mpr h6;clear h6
         by_cases r4:a3.length<17592186044416
         ·rw [if_pos r4] at H;have LMc61:=zqm r4;clear r4;obtain⟨i2,m3⟩: ∃y_:List Int,y_=(a3 ++ [wrap64 ((wrap64 ((l0_1.length:Int)+(l1_1.length:Int))) - 3)]):=⟨_,rfl⟩;replace H:(spec_l20Glued.l0 k2 (l0_1.length:Int) (l1_1.length:Int) (wrap64 (a5+1)) l0_0 l0_1 l1_0 l1_1 b5 i2)=some (r1,r2):=zqy m3 H;have v5:=zqm m3;clear m3;have H':=zqm H;clear H;have a5e:=c4.out;have a5w:=c0.out;have a5f:=c5.out;have a5x:=c1.out;have a5g:=d0.out;have a5y:=c2.out;have a1f:wr.cell? ⟨a6,0,none⟩=some (b0):=(blk_cell a0.out 0).trans rfl;have a1g:wr.cell? ⟨a6,1,none⟩=some (a1):=(blk_cell a0.out 1).trans rfl;have a2d:=blk_frozen a0.out 0;have a2e:=blk_frozen a0.out 1;obtain⟨s4,s7,z4⟩:=Kd.R_slice HO_9.out;subst z4
          go_wp2_with (first|((with_reducible refine gate_builtin (b:= .append) (xs:= #[.tmp 108,.tmp 110]) rfl ?_);at_builtin;refine Kd.S_append (Kd.slice 3 (Kd.int .i64)) (w0:=w) w.heap.size rfl (.tmp 108) (.tmp 110) 27 28 (.slice none 0 0) 24 rfl Tryz.underlying27 info28 rfl (by decide) (by omega) b0 a8 b6 [.slice s4 b6.length s7] (fun k_=>some k_≠(a1:Value).ownBlock) (fun k_=>some k_=(.slice s4 b6.length s7:Value).ownBlock) rfl rfl ?aP (fun k_ hk_=>((Kd.R_mono (ok':=fun k_=>((fun k_=>some k_≠(a1:Value).ownBlock)) k_∧some k_≠(b0:Value).ownBlock) (Kd.R_apart' (HO_9.out) (Kd.S_typed HO_209000.out) (by decide)) (fun k_ hk=>⟨hk.1,hk.2⟩))).1 k_ hk_.symm) ?aF ?aO ?aB ?aS ?aL ?_;(case aP=> exact zq30);(case aB=> exact zq13);(case aF=> exact zq53);(case aO=> exact zq88);(case aS=> exact zq12);(case aL=>have:=LMc59.out;omega);intro o8 y4 ho hb hg hat;rw [← h2.out] at ho;replace HO_209001:=zqm (Kd.R_over' (zqfR HO_209001.out) (Kd.S_typed (zqfS HO_209000.out)) (by decide) hg);replace a2:=zqm (blk_grown (g:=b7) (o:= .cells #[.slice A0_0 l0_0.length c0_0,.slice A0_1 l0_1.length c0_1] 30 (0,0)) (zqe a2.out) hg (Kd.S_ne HO_209000.out a2.out (by decide)));replace a4:=zqm (blk_grown (g:=b8) (o:= .cells #[.slice A1_0 l1_0.length c1_0,.slice A1_1 l1_1.length c1_1] 30 (0,0)) (zqe a4.out) hg (Kd.S_ne HO_209000.out a4.out (by decide)));replace a7:=zqm (blk_grown (g:=b9) (o:= .cells #[.slice none 0 0,.slice none 0 0] 30 (0,0)) (zqe a7.out) hg (Kd.S_ne HO_209000.out a7.out (by decide)));replace a0:=zqm (blk_grown (g:=a6) (o:= .cells #[b0,a1] 30 (0,0)) (zqe a0.out) hg (Kd.S_ne HO_209000.out a0.out (by decide)));replace HB:=zqm (hb);have c3:=zqm (ho);clear HO_209000 HO_9;clear ho hb hg hat;obtain⟨g1,g4,z5⟩:=Kd.S_slice c3.out;subst z5;have a1h:y4.cell? ⟨a6,0,none⟩=some (b0):=(blk_cell a0.out 0).trans rfl;have a1i:y4.cell? ⟨a6,1,none⟩=some (a1):=(blk_cell a0.out 1).trans rfl;have a2f:=blk_frozen a0.out 0;have a2g:=blk_frozen a0.out 1)|((with_reducible refine gate_builtin (b:= .append) (xs:= #[.tmp 133,.tmp 138]) rfl ?_);at_builtin;refine Kd.R_append (Kd.int .i64) (w0:=w) w.heap.size rfl (.tmp 133) (.tmp 138) 28 3 (.int .i64 0) 8 rfl Tryz.underlying28 info3 rfl (by decide) (by omega) a1 a3 (wrap64 ((wrap64 ((l0_1.length:Int)+(l1_1.length:Int))) - 3)) [.int .i64 (wrap64 ((wrap64 ((l0_1.length:Int)+(l1_1.length:Int))) - 3))] (fun _=>True) (fun _=>False) rfl zq16 ?aP (fun _ hk=>hk.elim) ?aF ?aO ?aB ?aS ?aL ?_;(case aP=>exact rfl);(case aB=> exact zq13);(case aF=>exact(fun _ _=>trivial));(case aO=>exact(by refine zqfR ?_;exact Kd.R_mono (Kd.R_far (p:=⟨a6,0,none⟩) (Kd.R_types HO_209001.out a0.out (by decide)) (fun _ hk=>hk.2) (.slice g1 b5.length g4)) (fun _ hk=>trivial)));(case aS=> exact zq12);(case aL=>have:=LMc61.out;omega);intro a6r y5 ho hb hg hat;rw [← v5.out] at ho;replace a2:=zqm (blk_grown (g:=b7) (o:= .cells #[.slice A0_0 l0_0.length c0_0,.slice A0_1 l0_1.length c0_1] 30 (0,0)) zq56 hg (Kd.R_ne HO_209001.out a2.out (by decide)));replace a4:=zqm (blk_grown (g:=b8) (o:= .cells #[.slice A1_0 l1_0.length c1_0,.slice A1_1 l1_1.length c1_1] 30 (0,0)) zq57 hg (Kd.R_ne HO_209001.out a4.out (by decide)));replace a7:=zqm (blk_grown (g:=b9) (o:= .cells #[.slice none 0 0,.slice none 0 0] 30 (0,0)) zq58 hg (Kd.R_ne HO_209001.out a7.out (by decide)));have d9:=zqm (blk_grown (g:=a6) (o:= .cells #[.slice g1 b5.length g4,a1] 30 (0,0)) zq91 hg (Kd.R_ne HO_209001.out a0.out (by decide)));replace c3:=zqm (Kd.S_after (ok:=(fun _=>True)) (by refine zqfS ?_;exact Kd.S_mono (Kd.S_far (p:=⟨a6,0,none⟩) (Kd.S_types c3.out a0.out (by decide)) (fun _ hk=>hk.2) (.slice g1 b5.length g4)) (fun _ hk=>⟨trivial,hk.1⟩)) hg hat);replace HB:=zqm (hb);have p0:=zqm (ho);clear a0 HO_209001;have a0:=d9;clear d9 ho hb hg hat;obtain⟨m9,n4,z6⟩:=Kd.R_slice p0.out;subst z6;have a1j:y5.cell? ⟨a6,0,none⟩=some (.slice g1 b5.length g4):=(blk_cell a0.out 0).trans rfl;have a1k:y5.cell? ⟨a6,1,none⟩=some (a1):=(blk_cell a0.out 1).trans rfl;have a2h:=blk_frozen a0.out 0;have a2i:=blk_frozen a0.out 1))
          go_roundg k2
          (case measure=> exact zq106);case rel=>exact⟨(wrap64 (a5+1)),(b5),(i2),(.slice g1 b5.length g4),(.slice m9 i2.length n4),zq8,H',⟨zq106⟩,⟨by refine zqfS ?_;exact Kd.S_mono (Kd.S_far (p:=⟨a6,1,none⟩) (Kd.S_types c3.out a0.out (by decide)) (fun _ hk=>hk.2) (.slice m9 i2.length n4)) (fun _ hk=>hk.1.2)⟩,⟨by refine zqfR ?_;exact Kd.R_mono (Kd.R_far (p:=⟨a6,1,none⟩) (Kd.R_types p0.out a0.out (by decide)) (fun _ hk=>hk.2) (.slice m9 i2.length n4)) (fun _ hk=>trivial)⟩,⟨zq56⟩,⟨zq57⟩,⟨zq58⟩,⟨by refine zqe ?_;refine blk_put (cs:= #[.slice g1 b5.length g4,a1]) ?_ 1 _ rfl;refine zqe ?_;exact a0.out⟩,⟨zq4⟩⟩
         ·rw [if_neg r4] at H;exact absurd H (by simp)
        ·rw [if_neg h6] at H;have x4:(a5==0)=false:=beq_eq_false_iff_ne.mpr h6;have x5:(a5 !=0)=true:=bne_iff_ne.mpr h6
         by_cases h7:a5=(wrap64 ((wrap64 ((l0_1.length:Int)+(l1_1.length:Int))) - 3))
         ·rw [if_pos h7] at H;have x6:(a5==(wrap64 ((wrap64 ((l0_1.length:Int)+(l1_1.length:Int))) - 3)))=true:=beq_iff_eq.mpr h7;have x7:(a5 !=(wrap64 ((wrap64 ((l0_1.length:Int)+(l1_1.length:Int))) - 3)))=false:=bne_eq_false_iff_eq.mpr h7;clear h7
          by_cases r5:a3.length<17592186044416
          ·rw [if_pos r5] at H;have LMc74:=zqm r5;clear r5;obtain⟨i3,m4⟩: ∃y_:List Int,y_=(a3 ++ [0]):=⟨_,rfl⟩;replace H:(spec_l20Glued.l0 k2 (l0_1.length:Int) (l1_1.length:Int) (wrap64 (a5+1)) l0_0 l0_1 l1_0 l1_1 b5 i3)=some (r1,r2):=zqy m4 H;have v6:=zqm m4;clear m4;have H':=zqm H;clear H;have a5h:=c4.out;have a5z:=c0.out;have a5i:=c5.out;have a6a:=c1.out;have a5j:=d0.out;have a6b:=c2.out;have a1l:wr.cell? ⟨a6,0,none⟩=some (b0):=(blk_cell a0.out 0).trans rfl;have a1m:wr.cell? ⟨a6,1,none⟩=some (a1):=(blk_cell a0.out 1).trans rfl;have a2j:=blk_frozen a0.out 0;have a2k:=blk_frozen a0.out 1;obtain⟨s5,s8,z7⟩:=Kd.R_slice HO_9.out;subst z7
           go_wp2_with (first|((with_reducible refine gate_builtin (b:= .append) (xs:= #[.tmp 108,.tmp 110]) rfl ?_);at_builtin;refine Kd.S_append (Kd.slice 3 (Kd.int .i64)) (w0:=w) w.heap.size rfl (.tmp 108) (.tmp 110) 27 28 (.slice none 0 0) 24 rfl Tryz.underlying27 info28 rfl (by decide) (by omega) b0 a8 b6 [.slice s5 b6.length s8] (fun k_=>some k_≠(a1:Value).ownBlock) (fun k_=>some k_=(.slice s5 b6.length s8:Value).ownBlock) rfl rfl ?aP (fun k_ hk_=>((Kd.R_mono (ok':=fun k_=>((fun k_=>some k_≠(a1:Value).ownBlock)) k_∧some k_≠(b0:Value).ownBlock) (Kd.R_apart' (HO_9.out) (Kd.S_typed HO_209000.out) (by decide)) (fun k_ hk=>⟨hk.1,hk.2⟩))).1 k_ hk_.symm) ?aF ?aO ?aB ?aS ?aL ?_;(case aP=> exact zq30);(case aB=> exact zq13);(case aF=> exact zq53);(case aO=> exact zq88);(case aS=> exact zq12);(case aL=>have:=LMc59.out;omega);intro o8 y6 ho hb hg hat;rw [← h2.out] at ho;replace HO_209001:=zqm (Kd.R_over' (zqfR HO_209001.out) (Kd.S_typed (zqfS HO_209000.out)) (by decide) hg);replace a2:=zqm (blk_grown (g:=b7) (o:= .cells #[.slice A0_0 l0_0.length c0_0,.slice A0_1 l0_1.length c0_1] 30 (0,0)) (zqe a2.out) hg (Kd.S_ne HO_209000.out a2.out (by decide)));replace a4:=zqm (blk_grown (g:=b8) (o:= .cells #[.slice A1_0 l1_0.length c1_0,.slice A1_1 l1_1.length c1_1] 30 (0,0)) (zqe a4.out) hg (Kd.S_ne HO_209000.out a4.out (by decide)));replace a7:=zqm (blk_grown (g:=b9) (o:= .cells #[.slice none 0 0,.slice none 0 0] 30 (0,0)) (zqe a7.out) hg (Kd.S_ne HO_209000.out a7.out (by decide)));replace a0:=zqm (blk_grown (g:=a6) (o:= .cells #[b0,a1] 30 (0,0)) (zqe a0.out) hg (Kd.S_ne HO_209000.out a0.out (by decide)));replace HB:=zqm (hb);have c3:=zqm (ho);clear HO_209000 HO_9;clear ho hb hg hat;obtain⟨g2,g5,z8⟩:=Kd.S_slice c3.out;subst z8;have a1n:y6.cell? ⟨a6,0,none⟩=some (b0):=(blk_cell a0.out 0).trans rfl;have a1o:y6.cell? ⟨a6,1,none⟩=some (a1):=(blk_cell a0.out 1).trans rfl;have a2l:=blk_frozen a0.out 0;have a2m:=blk_frozen a0.out 1)|((with_reducible refine gate_builtin (b:= .append) (xs:= #[.tmp 149,.tmp 150]) rfl ?_);at_builtin;refine Kd.R_append (Kd.int .i64) (w0:=w) w.heap.size rfl (.tmp 149) (.tmp 150) 28 3 (.int .i64 0) 8 rfl Tryz.underlying28 info3 rfl (by decide) (by omega) a1 a3 0 [.int .i64 0] (fun _=>True) (fun _=>False) rfl zq16 ?aP (fun _ hk=>hk.elim) ?aF ?aO ?aB ?aS ?aL ?_;(case aP=>exact rfl);(case aB=> exact zq13);(case aF=>exact(fun _ _=>trivial));(case aO=>exact(by refine zqfR ?_;exact Kd.R_mono (Kd.R_far (p:=⟨a6,0,none⟩) (Kd.R_types HO_209001.out a0.out (by decide)) (fun _ hk=>hk.2) (.slice g2 b5.length g5)) (fun _ hk=>trivial)));(case aS=> exact zq12);(case aL=>have:=LMc74.out;omega);intro a6s y7 ho hb hg hat;rw [← v6.out] at ho;replace a2:=zqm (blk_grown (g:=b7) (o:= .cells #[.slice A0_0 l0_0.length c0_0,.slice A0_1 l0_1.length c0_1] 30 (0,0)) zq56 hg (Kd.R_ne HO_209001.out a2.out (by decide)));replace a4:=zqm (blk_grown (g:=b8) (o:= .cells #[.slice A1_0 l1_0.length c1_0,.slice A1_1 l1_1.length c1_1] 30 (0,0)) zq57 hg (Kd.R_ne HO_209001.out a4.out (by decide)));replace a7:=zqm (blk_grown (g:=b9) (o:= .cells #[.slice none 0 0,.slice none 0 0] 30 (0,0)) zq58 hg (Kd.R_ne HO_209001.out a7.out (by decide)));have d9:=zqm (blk_grown (g:=a6) (o:= .cells #[.slice g2 b5.length g5,a1] 30 (0,0)) zq91 hg (Kd.R_ne HO_209001.out a0.out (by decide)));replace c3:=zqm (Kd.S_after (ok:=(fun _=>True)) (by refine zqfS ?_;exact Kd.S_mono (Kd.S_far (p:=⟨a6,0,none⟩) (Kd.S_types c3.out a0.out (by decide)) (fun _ hk=>hk.2) (.slice g2 b5.length g5)) (fun _ hk=>⟨trivial,hk.1⟩)) hg hat);replace HB:=zqm (hb);have p1:=zqm (ho);clear a0 HO_209001;have a0:=d9;clear d9 ho hb hg hat;obtain⟨n0,n5,z9⟩:=Kd.R_slice p1.out;subst z9;have a1p:y7.cell? ⟨a6,0,none⟩=some (.slice g2 b5.length g5):=(blk_cell a0.out 0).trans rfl;have a1q:y7.cell? ⟨a6,1,none⟩=some (a1):=(blk_cell a0.out 1).trans rfl;have a2n:=blk_frozen a0.out 0;have a2o:=blk_frozen a0.out 1))
           go_roundg k2
           (case measure=> exact zq106);case rel=>exact⟨(wrap64 (a5+1)),(b5),(i3),(.slice g2 b5.length g5),(.slice n0 i3.length n5),zq8,H',⟨zq106⟩,⟨by refine zqfS ?_;exact Kd.S_mono (Kd.S_far (p:=⟨a6,1,none⟩) (Kd.S_types c3.out a0.out (by decide)) (fun _ hk=>hk.2) (.slice n0 i3.length n5)) (fun _ hk=>hk.1.2)⟩,⟨by refine zqfR ?_;exact Kd.R_mono (Kd.R_far (p:=⟨a6,1,none⟩) (Kd.R_types p1.out a0.out (by decide)) (fun _ hk=>hk.2) (.slice n0 i3.length n5)) (fun _ hk=>trivial)⟩,⟨zq56⟩,⟨zq57⟩,⟨zq58⟩,⟨by refine zqe ?_;refine blk_put (cs:= #[.slice g2 b5.length g5,a1]) ?_ 1 _ rfl;refine zqe ?_;exact a0.out⟩,⟨zq4⟩⟩
          ·rw [if_neg r5] at H;exact absurd H (by simp)
         ·rw [if_neg h7] at H;have x6:(a5==(wrap64 ((wrap64 ((l0_1.length:Int)+(l1_1.length:Int))) - 3)))=false:=beq_eq_false_iff_ne.mpr h7;have x7:(a5 !=(wrap64 ((wrap64 ((l0_1.length:Int)+(l1_1.length:Int))) - 3)))=true:=bne_iff_ne.mpr h7
          by_cases j1:a5<(wrap64 ((l0_1.length:Int) - 1))
          ·rw [if_pos j1] at H;have x8:decide (a5<(wrap64 ((l0_1.length:Int) - 1)))=true:=decide_eq_true j1;clear j1
           by_cases r6:0≤a5
           ·rw [if_pos r6] at H;have a4t:decide (0≤a5)=true:=decide_eq_true r6;clear r6
            by_cases r7:a5<(l0_1.length:Int)
            ·rw [if_pos r7] at H;have a4u:decide (a5<(l0_1.length:Int))=true:=decide_eq_true r7;clear r7
             by_cases r8:a3.length<17592186044416
             ·rw [if_pos r8] at H;have LMc89:=zqm r8;clear r8;obtain⟨i4,m5⟩: ∃y_:List Int,y_=(a3 ++ [rd l0_1 a5]):=⟨_,rfl⟩;replace H:(spec_l20Glued.l0 k2 (l0_1.length:Int) (l1_1.length:Int) (wrap64 (a5+1)) l0_0 l0_1 l1_0 l1_1 b5 i4)=some (r1,r2):=zqy m5 H;have v7:=zqm m5;clear m5;have H':=zqm H;clear H;have a5k:=c4.out;have a6c:=c0.out;have a5l:=c5.out;have a6d:=c1.out;have a5m:=d0.out;have a6e:=c2.out;have a1r:wr.cell? ⟨a6,0,none⟩=some (b0):=(blk_cell a0.out 0).trans rfl;have a1s:wr.cell? ⟨a6,1,none⟩=some (a1):=(blk_cell a0.out 1).trans rfl;have a2p:=blk_frozen a0.out 0;have a2q:=blk_frozen a0.out 1;obtain⟨s6,s9,a0a⟩:=Kd.R_slice HO_9.out;subst a0a;(try go_wp2_with (first|((with_reducible refine gate_builtin (b:= .append) (xs:= #[.tmp 108,.tmp 110]) rfl ?_);at_builtin;refine Kd.S_append (Kd.slice 3 (Kd.int .i64)) (w0:=w) w.heap.size rfl (.tmp 108) (.tmp 110) 27 28 (.slice none 0 0) 24 rfl Tryz.underlying27 info28 rfl (by decide) (by omega) b0 a8 b6 [.slice s6 b6.length s9] (fun k_=>some k_≠(a1:Value).ownBlock) (fun k_=>some k_=(.slice s6 b6.length s9:Value).ownBlock) rfl rfl ?aP (fun k_ hk_=>((Kd.R_mono (ok':=fun k_=>((fun k_=>some k_≠(a1:Value).ownBlock)) k_∧some k_≠(b0:Value).ownBlock) (Kd.R_apart' (HO_9.out) (Kd.S_typed HO_209000.out) (by decide)) (fun k_ hk=>⟨hk.1,hk.2⟩))).1 k_ hk_.symm) ?aF ?aO ?aB ?aS ?aL ?_;(case aP=> exact zq30);(case aB=> exact zq13);(case aF=> exact zq53);(case aO=> exact zq88);(case aS=> exact zq12);(case aL=>have:=LMc59.out;omega);intro o8 f2 ho hb hg hat;rw [← h2.out] at ho;replace HO_209001:=zqm (Kd.R_over' (zqfR HO_209001.out) (Kd.S_typed (zqfS HO_209000.out)) (by decide) hg);replace a2:=zqm (blk_grown (g:=b7) (o:= .cells #[.slice A0_0 l0_0.length c0_0,.slice A0_1 l0_1.length c0_1] 30 (0,0)) (zqe a2.out) hg (Kd.S_ne HO_209000.out a2.out (by decide)));replace a4:=zqm (blk_grown (g:=b8) (o:= .cells #[.slice A1_0 l1_0.length c1_0,.slice A1_1 l1_1.length c1_1] 30 (0,0)) (zqe a4.out) hg (Kd.S_ne HO_209000.out a4.out (by decide)));replace a7:=zqm (blk_grown (g:=b9) (o:= .cells #[.slice none 0 0,.slice none 0 0] 30 (0,0)) (zqe a7.out) hg (Kd.S_ne HO_209000.out a7.out (by decide)));replace a0:=zqm (blk_grown (g:=a6) (o:= .cells #[b0,a1] 30 (0,0)) (zqe a0.out) hg (Kd.S_ne HO_209000.out a0.out (by decide)));replace HB:=zqm (hb);have c3:=zqm (ho);clear HO_209000 HO_9;clear ho hb hg hat;obtain⟨d3,d4,a0b⟩:=Kd.S_slice c3.out;subst a0b;have a1t:f2.cell? ⟨a6,0,none⟩=some (b0):=(blk_cell a0.out 0).trans rfl;have a1u:f2.cell? ⟨a6,1,none⟩=some (a1):=(blk_cell a0.out 1).trans rfl;have a2r:=blk_frozen a0.out 0;have a2s:=blk_frozen a0.out 1)));have d7:Aside0 (Kd.R (Kd.int .i64) 3 (f2.setCell ⟨a6,0,none⟩ (.slice d3 b5.length d4)) w.heap.size (fun _=>True) a1 a3):=⟨by refine zqfR ?_;exact Kd.R_mono (Kd.R_far (p:=⟨a6,0,none⟩) (Kd.R_types HO_209001.out a0.out (by decide)) (fun _ hk=>hk.2) (.slice d3 b5.length d4)) (fun _ hk=>trivial)⟩;have d8:Aside0 (Kd.S (Kd.slice 3 (Kd.int .i64)) 28 (f2.setCell ⟨a6,0,none⟩ (.slice d3 b5.length d4)) w.heap.size (fun k_=>some k_≠(a1:Value).ownBlock) (.slice d3 b5.length d4) b5):=⟨by refine zqfS ?_;exact Kd.S_mono (Kd.S_far (p:=⟨a6,0,none⟩) (Kd.S_types c3.out a0.out (by decide)) (fun _ hk=>hk.2) (.slice d3 b5.length d4)) (fun _ hk=>hk.1)⟩;have e5:Aside0 ((f2.setCell ⟨a6,0,none⟩ (.slice d3 b5.length d4)).heap[b7]? =some (.cells #[.slice A0_0 l0_0.length c0_0,.slice A0_1 l0_1.length c0_1] 30 (0,0))):=⟨zq56⟩;have d9:Aside0 ((f2.setCell ⟨a6,0,none⟩ (.slice d3 b5.length d4)).heap[b8]? =some (.cells #[.slice A1_0 l1_0.length c1_0,.slice A1_1 l1_1.length c1_1] 30 (0,0))):=⟨zq57⟩;have h9:Aside0 ((f2.setCell ⟨a6,0,none⟩ (.slice d3 b5.length d4)).heap[b9]? =some (.cells #[.slice none 0 0,.slice none 0 0] 30 (0,0))):=⟨zq58⟩;have i0:Aside0 ((f2.setCell ⟨a6,0,none⟩ (.slice d3 b5.length d4)).heap[a6]? =some (.cells #[.slice d3 b5.length d4,a1] 30 (0,0))):=⟨zq91⟩;have i1:Aside0 (Below w.heap.size w (f2.setCell ⟨a6,0,none⟩ (.slice d3 b5.length d4))):=⟨zq4⟩
              generalize (f2.setCell ⟨a6,0,none⟩ (.slice d3 b5.length d4))=w98 at d7 d8 e5 d9 h9 i0 i1 ⊢;have HO_209001:=d7;have c3:=d8;have a2:=e5;have a4:=d9;have a7:=h9;have a0:=i0;have HB:=i1;clear d7 d8 e5 d9 h9 i0 i1;replace HO_209001:=zqm (Kd.R_drew HO_209001.out);replace c3:=zqm (Kd.S_drew c3.out);replace a2:=zqm (blk_drew a2.out);replace a4:=zqm (blk_drew a4.out);replace a7:=zqm (blk_drew a7.out);replace a0:=zqm (blk_drew a0.out);replace HB:=zqm (below_drew1 HB.out);have o0:0≤(a5:Int):=zqo;have o6:a5<(l0_1.length:Int):=zqo;obtain⟨k4,z2,e3⟩:=Kd.at_int u6.out a5 o0 o6;have hw240_0:=e3
              cases z2
              replace e3:=(HB.out.cell (World.block_lt_of_cell? w _ e3)).trans e3;replace o0:=eq_true o0;replace o6:=eq_true o6;refine start_ (n:=11) (S:=fun w'=>w'.cell? ⟨a6,0,none⟩=some (.slice d3 b5.length d4)∧w'.cell? ⟨a6,1,none⟩=some (a1)∧w'.cell? ⟨b7,0,none⟩=some (.slice A0_0 l0_0.length c0_0)∧w'.cell? ⟨b7,1,none⟩=some (.slice (some k4) l0_1.length c0_1)∧w'.cell? (k4.add (a5).toNat)=some (.int .i64 (rd l0_1 a5))) (ds:= [10]) (zqb 11 0) zqk rfl rfl ⟨(blk_cell a0.out 0).trans rfl,(blk_cell a0.out 1).trans rfl,(blk_cell a2.out 0).trans rfl,(blk_cell a2.out 1).trans rfl,((HB.out.cell (World.block_lt_of_cell? w _ hw240_0)).trans hw240_0)⟩ (fun hHeld=>?_);refine with_tabW spec_l20Glued.tab28 spec_l20Glued.bits28 (fun HT_ HW_=>?_);generalize w98.drew=w99 at HO_209001 c3 a2 a4 a7 a0 HB e3 hHeld ⊢;refine zqp 0 158 (zqb 11 1) HT_ ?_;refine zqp 2 160 (zqb 11 5) HT_ ?_;refine zqp 4 162 (zqb 11 21) HT_ ?_;refine zqw 1 159 (zqb 11 23) HT_ HW_ hHeld ?_;refine zqw 3 161 (zqb 11 31) HT_ HW_ hHeld ?_;refine zqp 5 163 (zqb 11 63) HT_ ?_;refine zqw 6 164 (zqb 11 127) HT_ HW_ hHeld ?_;refine one_ (i:=7) (N:=some 165) (zqb 11 255) rfl rfl (one_of HT_.out zqk) (by decide) (fun K hK=>?_);refine value_ (w1:=?_) (v:=?_) (by rfl) rfl ?_ ?_;rotate_left 2
              ·go_simp
               constructor
               ·rfl
               ·rfl
              refine hK.out _ _ ⟨(blk_cell (blk_alloc a0.out _) 0).trans rfl,(blk_cell (blk_alloc a0.out _) 1).trans rfl,(blk_cell (blk_alloc a2.out _) 0).trans rfl,(blk_cell (blk_alloc a2.out _) 1).trans rfl,(World.cell?_alloc_lt _ _ _ (World.block_lt_of_cell? _ _ (((HB.out.cell (World.block_lt_of_cell? w _ hw240_0)).trans hw240_0)))).trans (((HB.out.cell (World.block_lt_of_cell? w _ hw240_0)).trans hw240_0))⟩ (fun hHeld=>?_);clear hK K;refine norm_ (a':=?_) ?_ ?_;rotate_left
              ·show Act.put _ (some 165) _=_;exact zqs
              refine one_ (i:=8) (N:=some 166) (zqb 11 511) rfl rfl (one_of HT_.out zqk) (by decide) (fun K hK=>?_);refine Kd.R_append_step (Kd.int .i64) (w0:=w) w.heap.size (by rfl) (.tmp 159) (.tmp 165) 28 3 (.int .i64 0) 8 rfl Tryz.underlying28 info3 rfl (by decide) (by omega) a1 a3 (rd l0_1 a5) [.int .i64 (rd l0_1 a5)] (fun _=>True) (fun _=>False) rfl rfl ?aP (fun _ hk=>hk.elim) ?aF ?aO ?aB ?aS ?aL ?_;(case aP=>exact rfl);(case aB=> exact zq13);(case aF=>exact(fun _ _=>trivial));(case aO=>exact(zqfR HO_209001.out));(case aS=> exact zq12);(case aL=>have:=LMc89.out;omega);intro a6t a0s ho hb hg hat;rw [← v7.out] at ho;replace a2:=zqm (blk_grown (g:=b7) (o:= .cells #[.slice A0_0 l0_0.length c0_0,.slice (some k4) l0_1.length c0_1] 30 (0,0)) (zqe a2.out) hg (Kd.R_ne HO_209001.out a2.out (by decide)));replace a4:=zqm (blk_grown (g:=b8) (o:= .cells #[.slice A1_0 l1_0.length c1_0,.slice A1_1 l1_1.length c1_1] 30 (0,0)) (zqe a4.out) hg (Kd.R_ne HO_209001.out a4.out (by decide)));replace a7:=zqm (blk_grown (g:=b9) (o:= .cells #[.slice none 0 0,.slice none 0 0] 30 (0,0)) (zqe a7.out) hg (Kd.R_ne HO_209001.out a7.out (by decide)));replace a0:=zqm (blk_grown (g:=a6) (o:= .cells #[.slice d3 b5.length d4,a1] 30 (0,0)) (zqe a0.out) hg (Kd.R_ne HO_209001.out a0.out (by decide)));replace c3:=zqm (Kd.S_after (ok:=(fun _=>True)) (by refine zqfS ?_;exact Kd.S_mono c3.out (fun _ hk=>⟨trivial,hk⟩)) hg hat);replace HB:=zqm (hb);have p2:=zqm (ho);clear HO_209001;clear ho hb hg hat;obtain⟨j9,k9,s0⟩:=Kd.R_slice p2.out;(first|subst s0|(injection s0 with m7 t0 m8;have t1:=m7.symm;have t2:=m8.symm;clear m7 t0 m8;subst t1;subst t2));refine hK.out _ _ ⟨(blk_cell a0.out 0).trans rfl,(blk_cell a0.out 1).trans rfl,(blk_cell a2.out 0).trans rfl,(blk_cell a2.out 1).trans rfl,((HB.out.cell (World.block_lt_of_cell? w _ hw240_0)).trans hw240_0)⟩ (fun hHeld=>?_);clear hK K;refine norm_ (a':=?_) ?_ ?_;rotate_left
              ·show Act.put _ (some 166) _=_;exact zqs
              refine zqp 9 167 (zqb 11 1023) HT_ ?_;refine last_ (i:=10) (N:=none) (zqb 11 2047) rfl rfl (one_of HT_.out zqk) (by decide) (fun K hK=>?_);have hs102:a0s.cell? ⟨a6,1,none⟩=some (a1):=(blk_cell a0.out 1).trans rfl;have hfs102:=blk_frozen a0.out 1;have hns102_0:=c0.out;have hns102_1:=c1.out;have hns102_2:=c2.out;have hms102_0:=c4.out;have hms102_1:=c5.out;have hms102_2:=d0.out;refine skip_ (w1:=?_) (by rfl) rfl ?_ ?_;rotate_left
              ·go_simp;rfl
              refine hK.out _ _ ?_;clear hK K;refine done_ (done_of HT_.out zqk) ?_;try go_wp2
              go_roundg k2
              (case measure=> exact zq106);case rel=>exact⟨(wrap64 (a5+1)),(b5),(i4),(.slice d3 b5.length d4),(.slice j9 i4.length k9),zq8,H',⟨zq106⟩,⟨by refine zqfS ?_;exact Kd.S_mono (Kd.S_far (p:=⟨a6,1,none⟩) (Kd.S_types c3.out a0.out (by decide)) (fun _ hk=>hk.2) (.slice j9 i4.length k9)) (fun _ hk=>hk.1.2)⟩,⟨by refine zqfR ?_;exact Kd.R_mono (Kd.R_far (p:=⟨a6,1,none⟩) (Kd.R_types p2.out a0.out (by decide)) (fun _ hk=>hk.2) (.slice j9 i4.length k9)) (fun _ hk=>trivial)⟩,⟨zq56⟩,⟨zq57⟩,⟨zq58⟩,⟨by refine zqe ?_;refine blk_put (cs:= #[.slice d3 b5.length d4,a1]) ?_ 1 _ rfl;refine zqe ?_;exact a0.out⟩,⟨zq4⟩⟩
             ·rw [if_neg r8] at H;exact absurd H (by simp)
            ·rw [if_neg r7] at H;exact absurd H (by simp)
           ·rw [if_neg r6] at H;exact absurd H (by simp)
          ·rw [if_neg j1] at H;have x8:decide (a5<(wrap64 ((l0_1.length:Int) - 1)))=false:=decide_eq_false j1;clear j1;obtain⟨c8,h8⟩: ∃j_:Int,(wrap64 ((wrap64 (a5 - (l0_1.length:Int)))+2))=j_:=⟨_,rfl⟩;(replace H:(if 0≤(c8) then(if(c8)<(l1_1.length:Int) then(if a3.length<17592186044416 then(spec_l20Glued.l0 k2 (l0_1.length:Int) (l1_1.length:Int) (wrap64 (a5+1)) l0_0 l0_1 l1_0 l1_1 b5 (a3 ++ [wrap64 ((wrap64 ((rd l1_1 (c8))+(l0_1.length:Int))) - 2)])) else(none)) else(none)) else(none))=some (r1,r2):=by first|(rw [h8] at H;exact H)|(simp only [h8] at H ⊢;exact H));have a2t:(IntKind.i64.wrap ((wrap64 (a5 - (l0_1.length:Int)))+2))=c8:=(i64_w _).trans h8
           by_cases k6:0≤(c8)
           ·rw [if_pos k6] at H;have a2w:decide (0≤(c8))=true:=decide_eq_true k6;clear k6
            by_cases k7:(c8)<(l1_1.length:Int)
            ·rw [if_pos k7] at H;have a2x:decide ((c8)<(l1_1.length:Int))=true:=decide_eq_true k7;clear k7
             by_cases k8:a3.length<17592186044416
             ·rw [if_pos k8] at H;have LMc106:=zqm k8;clear k8;obtain⟨i5,m6⟩: ∃y_:List Int,y_=(a3 ++ [wrap64 ((wrap64 ((rd l1_1 (c8))+(l0_1.length:Int))) - 2)]):=⟨_,rfl⟩;replace H:(spec_l20Glued.l0 k2 (l0_1.length:Int) (l1_1.length:Int) (wrap64 (a5+1)) l0_0 l0_1 l1_0 l1_1 b5 i5)=some (r1,r2):=zqy m6 H;have w2:=zqm m6;clear m6;have H':=zqm H;clear H;have a3g:=c4.out;have a3o:=c0.out;have a3h:=c5.out;have a3p:=c1.out;have a3i:=d0.out;have a3q:=c2.out;have a0c:wr.cell? ⟨a6,0,none⟩=some (b0):=(blk_cell a0.out 0).trans rfl;have a0d:wr.cell? ⟨a6,1,none⟩=some (a1):=(blk_cell a0.out 1).trans rfl;have a0k:=blk_frozen a0.out 0;have a0l:=blk_frozen a0.out 1;obtain⟨o9,r9,x9⟩:=Kd.R_slice HO_9.out;subst x9;(try go_wp2_with (first|((with_reducible refine gate_builtin (b:= .append) (xs:= #[.tmp 108,.tmp 110]) rfl ?_);at_builtin;refine Kd.S_append (Kd.slice 3 (Kd.int .i64)) (w0:=w) w.heap.size rfl (.tmp 108) (.tmp 110) 27 28 (.slice none 0 0) 24 rfl Tryz.underlying27 info28 rfl (by decide) (by omega) b0 a8 b6 [.slice o9 b6.length r9] (fun k_=>some k_≠(a1:Value).ownBlock) (fun k_=>some k_=(.slice o9 b6.length r9:Value).ownBlock) rfl rfl ?aP (fun k_ hk_=>((Kd.R_mono (ok':=fun k_=>((fun k_=>some k_≠(a1:Value).ownBlock)) k_∧some k_≠(b0:Value).ownBlock) (Kd.R_apart' (HO_9.out) (Kd.S_typed HO_209000.out) (by decide)) (fun k_ hk=>⟨hk.1,hk.2⟩))).1 k_ hk_.symm) ?aF ?aO ?aB ?aS ?aL ?_;(case aP=> exact zq30);(case aB=> exact zq13);(case aF=> exact zq53);(case aO=> exact zq88);(case aS=> exact zq12);(case aL=>have:=LMc59.out;omega);intro o8 e2 ho hb hg hat;rw [← h2.out] at ho;replace HO_209001:=zqm (Kd.R_over' (zqfR HO_209001.out) (Kd.S_typed (zqfS HO_209000.out)) (by decide) hg);replace a2:=zqm (blk_grown (g:=b7) (o:= .cells #[.slice A0_0 l0_0.length c0_0,.slice A0_1 l0_1.length c0_1] 30 (0,0)) (zqe a2.out) hg (Kd.S_ne HO_209000.out a2.out (by decide)));replace a4:=zqm (blk_grown (g:=b8) (o:= .cells #[.slice A1_0 l1_0.length c1_0,.slice A1_1 l1_1.length c1_1] 30 (0,0)) (zqe a4.out) hg (Kd.S_ne HO_209000.out a4.out (by decide)));replace a7:=zqm (blk_grown (g:=b9) (o:= .cells #[.slice none 0 0,.slice none 0 0] 30 (0,0)) (zqe a7.out) hg (Kd.S_ne HO_209000.out a7.out (by decide)));replace a0:=zqm (blk_grown (g:=a6) (o:= .cells #[b0,a1] 30 (0,0)) (zqe a0.out) hg (Kd.S_ne HO_209000.out a0.out (by decide)));replace HB:=zqm (hb);have c3:=zqm (ho);clear HO_209000 HO_9;clear ho hb hg hat;obtain⟨c6,c7,y0⟩:=Kd.S_slice c3.out;subst y0;have a0e:e2.cell? ⟨a6,0,none⟩=some (b0):=(blk_cell a0.out 0).trans rfl;have a0f:e2.cell? ⟨a6,1,none⟩=some (a1):=(blk_cell a0.out 1).trans rfl;have a0m:=blk_frozen a0.out 0;have a0n:=blk_frozen a0.out 1)));have d7:Aside0 (Kd.R (Kd.int .i64) 3 (e2.setCell ⟨a6,0,none⟩ (.slice c6 b5.length c7)) w.heap.size (fun _=>True) a1 a3):=⟨by refine zqfR ?_;exact Kd.R_mono (Kd.R_far (p:=⟨a6,0,none⟩) (Kd.R_types HO_209001.out a0.out (by decide)) (fun _ hk=>hk.2) (.slice c6 b5.length c7)) (fun _ hk=>trivial)⟩;have d8:Aside0 (Kd.S (Kd.slice 3 (Kd.int .i64)) 28 (e2.setCell ⟨a6,0,none⟩ (.slice c6 b5.length c7)) w.heap.size (fun k_=>some k_≠(a1:Value).ownBlock) (.slice c6 b5.length c7) b5):=⟨by refine zqfS ?_;exact Kd.S_mono (Kd.S_far (p:=⟨a6,0,none⟩) (Kd.S_types c3.out a0.out (by decide)) (fun _ hk=>hk.2) (.slice c6 b5.length c7)) (fun _ hk=>hk.1)⟩;have e5:Aside0 ((e2.setCell ⟨a6,0,none⟩ (.slice c6 b5.length c7)).heap[b7]? =some (.cells #[.slice A0_0 l0_0.length c0_0,.slice A0_1 l0_1.length c0_1] 30 (0,0))):=⟨zq56⟩;have d9:Aside0 ((e2.setCell ⟨a6,0,none⟩ (.slice c6 b5.length c7)).heap[b8]? =some (.cells #[.slice A1_0 l1_0.length c1_0,.slice A1_1 l1_1.length c1_1] 30 (0,0))):=⟨zq57⟩;have h9:Aside0 ((e2.setCell ⟨a6,0,none⟩ (.slice c6 b5.length c7)).heap[b9]? =some (.cells #[.slice none 0 0,.slice none 0 0] 30 (0,0))):=⟨zq58⟩;have i0:Aside0 ((e2.setCell ⟨a6,0,none⟩ (.slice c6 b5.length c7)).heap[a6]? =some (.cells #[.slice c6 b5.length c7,a1] 30 (0,0))):=⟨zq91⟩;have i1:Aside0 (Below w.heap.size w (e2.setCell ⟨a6,0,none⟩ (.slice c6 b5.length c7))):=⟨zq4⟩
              generalize (e2.setCell ⟨a6,0,none⟩ (.slice c6 b5.length c7))=a0t at d7 d8 e5 d9 h9 i0 i1 ⊢;have HO_209001:=d7;have c3:=d8;have a2:=e5;have a4:=d9;have a7:=h9;have a0:=i0;have HB:=i1;clear d7 d8 e5 d9 h9 i0 i1;replace HO_209001:=zqm (Kd.R_drew HO_209001.out);replace c3:=zqm (Kd.S_drew c3.out);replace a2:=zqm (blk_drew a2.out);replace a4:=zqm (blk_drew a4.out);replace a7:=zqm (blk_drew a7.out);replace a0:=zqm (blk_drew a0.out);replace HB:=zqm (below_drew1 HB.out);have o1:0≤((c8):Int):=zqo;have o7:(c8)<(l1_1.length:Int):=zqo;obtain⟨k5,z3,e4⟩:=Kd.at_int u8.out (c8) o1 o7;have hw244_0:=e4
              cases z3
              replace e4:=(HB.out.cell (World.block_lt_of_cell? w _ e4)).trans e4;replace o1:=eq_true o1;replace o7:=eq_true o7;refine start_ (n:=17) (S:=fun w'=>w'.cell? ⟨a6,0,none⟩=some (.slice c6 b5.length c7)∧w'.cell? ⟨a6,1,none⟩=some (a1)∧w'.cell? ⟨b8,0,none⟩=some (.slice A1_0 l1_0.length c1_0)∧w'.cell? ⟨b8,1,none⟩=some (.slice (some k5) l1_1.length c1_1)∧w'.cell? (k5.add ((c8)).toNat)=some (.int .i64 (rd l1_1 (c8)))) (ds:= [16]) (zqb 17 0) zqk rfl rfl ⟨(blk_cell a0.out 0).trans rfl,(blk_cell a0.out 1).trans rfl,(blk_cell a4.out 0).trans rfl,(blk_cell a4.out 1).trans rfl,((HB.out.cell (World.block_lt_of_cell? w _ hw244_0)).trans hw244_0)⟩ (fun hHeld=>?_);refine with_tabW spec_l20Glued.tab22 spec_l20Glued.bits22 (fun HT_ HW_=>?_);generalize a0t.drew=a6v at HO_209001 c3 a2 a4 a7 a0 HB e4 hHeld ⊢;refine zqp 0 113 (zqb 17 1) HT_ ?_;refine zqp 2 115 (zqb 17 5) HT_ ?_;refine zqp 4 117 (zqb 17 21) HT_ ?_;refine zqp 5 118 (zqb 17 53) HT_ ?_;refine zqp 6 119 (zqb 17 117) HT_ ?_;refine zqp 7 120 (zqb 17 245) HT_ ?_;refine zqp 10 123 (zqb 17 1269) HT_ ?_;refine zqw 1 114 (zqb 17 1271) HT_ HW_ hHeld ?_;refine zqw 3 116 (zqb 17 1279) HT_ HW_ hHeld ?_;refine zqp 8 121 (zqb 17 1535) HT_ ?_;refine zqw 9 122 (zqb 17 2047) HT_ HW_ hHeld ?_;refine zqp 11 124 (zqb 17 4095) HT_ ?_;refine zqp 12 125 (zqb 17 8191) HT_ ?_;refine one_ (i:=13) (N:=some 126) (zqb 17 16383) rfl rfl (one_of HT_.out zqk) (by decide) (fun K hK=>?_);refine value_ (w1:=?_) (v:=?_) (by rfl) rfl ?_ ?_;rotate_left 2
              ·go_simp
               constructor
               ·rfl
               ·rfl
              refine hK.out _ _ ⟨(blk_cell (blk_alloc a0.out _) 0).trans rfl,(blk_cell (blk_alloc a0.out _) 1).trans rfl,(blk_cell (blk_alloc a4.out _) 0).trans rfl,(blk_cell (blk_alloc a4.out _) 1).trans rfl,(World.cell?_alloc_lt _ _ _ (World.block_lt_of_cell? _ _ (((HB.out.cell (World.block_lt_of_cell? w _ hw244_0)).trans hw244_0)))).trans (((HB.out.cell (World.block_lt_of_cell? w _ hw244_0)).trans hw244_0))⟩ (fun hHeld=>?_);clear hK K;refine norm_ (a':=?_) ?_ ?_;rotate_left
              ·show Act.put _ (some 126) _=_;exact zqs
              refine one_ (i:=14) (N:=some 127) (zqb 17 32767) rfl rfl (one_of HT_.out zqk) (by decide) (fun K hK=>?_);refine Kd.R_append_step (Kd.int .i64) (w0:=w) w.heap.size (by rfl) (.tmp 114) (.tmp 126) 28 3 (.int .i64 0) 8 rfl Tryz.underlying28 info3 rfl (by decide) (by omega) a1 a3 (wrap64 ((wrap64 ((rd l1_1 (c8))+(l0_1.length:Int))) - 2)) [.int .i64 (wrap64 ((wrap64 ((rd l1_1 (c8))+(l0_1.length:Int))) - 2))] (fun _=>True) (fun _=>False) rfl rfl ?aP (fun _ hk=>hk.elim) ?aF ?aO ?aB ?aS ?aL ?_;(case aP=>exact rfl);(case aB=> exact zq13);(case aF=>exact(fun _ _=>trivial));(case aO=>exact(zqfR HO_209001.out));(case aS=> exact zq12);(case aL=>have:=LMc106.out;omega);intro a6u a0u ho hb hg hat;rw [← w2.out] at ho;replace a2:=zqm (blk_grown (g:=b7) (o:= .cells #[.slice A0_0 l0_0.length c0_0,.slice A0_1 l0_1.length c0_1] 30 (0,0)) (zqe a2.out) hg (Kd.R_ne HO_209001.out a2.out (by decide)));replace a4:=zqm (blk_grown (g:=b8) (o:= .cells #[.slice A1_0 l1_0.length c1_0,.slice (some k5) l1_1.length c1_1] 30 (0,0)) (zqe a4.out) hg (Kd.R_ne HO_209001.out a4.out (by decide)));replace a7:=zqm (blk_grown (g:=b9) (o:= .cells #[.slice none 0 0,.slice none 0 0] 30 (0,0)) (zqe a7.out) hg (Kd.R_ne HO_209001.out a7.out (by decide)));replace a0:=zqm (blk_grown (g:=a6) (o:= .cells #[.slice c6 b5.length c7,a1] 30 (0,0)) (zqe a0.out) hg (Kd.R_ne HO_209001.out a0.out (by decide)));replace c3:=zqm (Kd.S_after (ok:=(fun _=>True)) (by refine zqfS ?_;exact Kd.S_mono c3.out (fun _ hk=>⟨trivial,hk⟩)) hg hat);replace HB:=zqm (hb);have p3:=zqm (ho);clear HO_209001;clear ho hb hg hat;obtain⟨k0,l2,s1⟩:=Kd.R_slice p3.out;(first|subst s1|(injection s1 with m7 t0 m8;have t1:=m7.symm;have t2:=m8.symm;clear m7 t0 m8;subst t1;subst t2));refine hK.out _ _ ⟨(blk_cell a0.out 0).trans rfl,(blk_cell a0.out 1).trans rfl,(blk_cell a4.out 0).trans rfl,(blk_cell a4.out 1).trans rfl,((HB.out.cell (World.block_lt_of_cell? w _ hw244_0)).trans hw244_0)⟩ (fun hHeld=>?_);clear hK K;refine norm_ (a':=?_) ?_ ?_;rotate_left
              ·show Act.put _ (some 127) _=_;exact zqs
              refine zqp 15 128 (zqb 17 65535) HT_ ?_;refine last_ (i:=16) (N:=none) (zqb 17 131071) rfl rfl (one_of HT_.out zqk) (by decide) (fun K hK=>?_);have hs119:a0u.cell? ⟨a6,1,none⟩=some (a1):=(blk_cell a0.out 1).trans rfl;have hfs119:=blk_frozen a0.out 1;have hns119_0:=c0.out;have hns119_1:=c1.out;have hns119_2:=c2.out;have hms119_0:=c4.out;have hms119_1:=c5.out;have hms119_2:=d0.out;refine skip_ (w1:=?_) (by rfl) rfl ?_ ?_;rotate_left
              ·go_simp;rfl
              refine hK.out _ _ ?_;clear hK K;refine done_ (done_of HT_.out zqk) ?_;try go_wp2
              go_roundg k2
              (case measure=> exact zq106);case rel=>exact⟨(wrap64 (a5+1)),(b5),(i5),(.slice c6 b5.length c7),(.slice k0 i5.length l2),zq8,H',⟨zq106⟩,⟨by refine zqfS ?_;exact Kd.S_mono (Kd.S_far (p:=⟨a6,1,none⟩) (Kd.S_types c3.out a0.out (by decide)) (fun _ hk=>hk.2) (.slice k0 i5.length l2)) (fun _ hk=>hk.1.2)⟩,⟨by refine zqfR ?_;exact Kd.R_mono (Kd.R_far (p:=⟨a6,1,none⟩) (Kd.R_types p3.out a0.out (by decide)) (fun _ hk=>hk.2) (.slice k0 i5.length l2)) (fun _ hk=>trivial)⟩,⟨zq56⟩,⟨zq57⟩,⟨zq58⟩,⟨by refine zqe ?_;refine blk_put (cs:= #[.slice c6 b5.length c7,a1]) ?_ 1 _ rfl;refine zqe ?_;exact a0.out⟩,⟨zq4⟩⟩
             ·rw [if_neg k8] at H;exact absurd H (by simp)
            ·rw [if_neg k7] at H;exact absurd H (by simp)
           ·rw [if_neg k6] at H;exact absurd H (by simp)
       ·rw [if_neg r3] at H;exact absurd H (by simp)
   ·rw [if_neg i6] at H;have w8:decide (a5<(wrap64 ((wrap64 ((l0_1.length:Int)+(l1_1.length:Int))) - 2)))=false:=decide_eq_false i6;clear i6;simp only [Option.some.injEq,Prod.mk.injEq] at H;obtain⟨rfl,rfl⟩:=H;have a3j:=c4.out;have a3r:=c0.out;have a3k:=c5.out;have a3s:=c1.out;have a3l:=d0.out;have a3t:=c2.out;have a0g:wr.cell? ⟨a6,0,none⟩=some (b0):=(blk_cell a0.out 0).trans rfl;have a0h:wr.cell? ⟨a6,1,none⟩=some (a1):=(blk_cell a0.out 1).trans rfl;have a0o:=blk_frozen a0.out 0;have a0p:=blk_frozen a0.out 1;obtain⟨h1,h3,y1⟩:=Kd.S_slice HO_209000.out;subst y1;have a3m:=f0.out;have a3u:=e7.out;have a3n:=f1.out;have a3v:=e9.out;have a0i:wr.cell? ⟨b9,0,none⟩=some (.slice none 0 0):=(blk_cell a7.out 0).trans rfl;have a0j:wr.cell? ⟨b9,1,none⟩=some (.slice none 0 0):=(blk_cell a7.out 1).trans rfl;have a0q:=blk_frozen a7.out 0;have a0r:=blk_frozen a7.out 1;obtain⟨k3,l3,y2⟩:=Kd.R_slice HO_209001.out;subst y2
    go_wp2
    refine bodyPost_ret (results_cell_row rfl _ _ b9 30 #[.slice h1 a8.length h3,.slice k3 a3.length l3] (0,0) _ rfl (by refine zqe ?_;refine blk_put (cs:= #[.slice h1 a8.length h3,.slice none 0 0]) ?_ 1 _ rfl;refine zqe ?_;refine blk_put (cs:= #[.slice none 0 0,.slice none 0 0]) ?_ 0 _ rfl;refine zqe ?_;exact a7.out) Tryz.underlying30 rfl zqk) rfl ?_;exact⟨_,_,zq18,by refine zqfS ?_;exact Kd.S_mono (Kd.S_far (p:=⟨b9,1,none⟩) (Kd.S_far (p:=⟨b9,0,none⟩) (Kd.S_types HO_209000.out a7.out (by decide)) (fun _ hk=>hk.2) (.slice h1 a8.length h3)) (fun _ hk=>hk.2) (.slice k3 a3.length l3)) (fun _ hk=>hk.1),by refine zqfR ?_;exact Kd.R_mono (Kd.R_far (p:=⟨b9,1,none⟩) (Kd.R_far (p:=⟨b9,0,none⟩) (Kd.R_types HO_209001.out a7.out (by decide)) (fun _ hk=>hk.2) (.slice h1 a8.length h3)) (fun _ hk=>hk.2) (.slice k3 a3.length l3)) (fun _ hk=>trivial),zq4⟩
end
section
attribute [local go_sem] max2_int min2_int max_two min_two max_three min_three max_four min_four
def spec_l1In.f (a0 : Int) (a1 : Int) (a2 : Int) : Option (Bool) := if a0 ≥ a1 then (some (decide (a0 ≤ a2))) else (some false)
set_option maxHeartbeats 8000000 in
set_option maxRecDepth 100000 in
theorem spec_l1In.calls (a0 : Int) (a1 : Int) (a2 : Int) (r : Bool) (w : World) (h : spec_l1In.f a0 a1 a2 = some r) :
  Calls Tryz.prog 58 #[.int .i64 a0, .int .i64 a1, .int .i64 a2] w fun e w' => e = .returned (.bool r) ∧ Drawn0 w w' := by
 have H : (if a0 ≥ a1 then (some (decide (a0 ≤ a2))) else (some false)) = some r := h
 clear h
 by_cases c4 : a0 ≥ a1
 ·rw [if_pos c4] at H
  have c4b0 : decide (a1 ≤ a0) = true := decide_eq_true c4
  clear c4
  obtain rfl := Option.some.inj H
  go_enter Tryz.func58, Tryz.ntmps58
  go_wp2
  go_ret
  exact ⟨zq120, by repeat (first | exact Drawn0.refl _ | apply Drawn0.step)⟩
 ·rw [if_neg c4] at H
  have c4b0 : decide (a1 ≤ a0) = false := decide_eq_false c4
  clear c4
  obtain rfl := Option.some.inj H
  go_enter Tryz.func58, Tryz.ntmps58
  go_wp2
  go_ret
  exact ⟨zq120, by repeat (first | exact Drawn0.refl _ | apply Drawn0.step)⟩
end
section
attribute [local go_sem] max2_int min2_int max_two min_two max_three min_three max_four min_four
mutual
def spec_l20Pasted.l0 : Nat → Int → List (List Int) → Option ((List (List Int)) × List Int)
 | 0, _, _ => none
 | k + 1, x2, x250000 => if x2 < 12 then (spec_l20Pasted.l1 k x2 (([] : List Int)) 0 x250000) else (some (x250000, (([11, 6, 7, 8, 9, 10, 1, 2, 3, 4, 5, 0] : List Int))))
def spec_l20Pasted.l1 : Nat → Int → List Int → Int → List (List Int) → Option ((List (List Int)) × List Int)
 | 0, _, _, _, _ => none
 | k + 1, x2, x3, x4, x250000 => if x4 < 12 then (if x2 = x4 then (spec_l20Pasted.j2 k x2 x3 x4 0 true x250000) else (if x2 = 0 then (spec_l20Pasted.j2 k x2 x3 x4 0 true x250000) else (spec_l20Pasted.j2 k x2 x3 x4 0 (x4 == 11) x250000))) else (if x250000.length < 5864062014805 then (spec_l20Pasted.l0 k (wrap64 (x2 + 1)) (x250000 ++ [x3])) else (none))
def spec_l20Pasted.j2 : Nat → Int → List Int → Int → Int → Bool → List (List Int) → Option ((List (List Int)) × List Int)
 | 0, _, _, _, _, _, _ => none
 | k + 1, x2, x3, x4, x5, x17, x250000 => if x17 = true then (if x3.length < 17592186044416 then (spec_l20Pasted.l1 k x2 (x3 ++ [1]) (wrap64 (x4 + 1)) x250000) else (none)) else ((spec_l1In.f x2 1 5).bind fun t262 => (if t262 = true then ((spec_l1In.f x4 6 10).bind fun t263 => (if t263 = true then (spec_l20Pasted.j3 k x2 x3 x4 x5 (x2 != (wrap64 (x4 - 5))) x250000) else (spec_l20Pasted.j3 k x2 x3 x4 x5 false x250000))) else (spec_l20Pasted.j3 k x2 x3 x4 x5 false x250000)))
def spec_l20Pasted.j3 : Nat → Int → List Int → Int → Int → Bool → List (List Int) → Option ((List (List Int)) × List Int)
 | 0, _, _, _, _, _, _ => none
 | k + 1, x2, x3, x4, x5, x29, x250000 => if x29 = true then (if x2 ≤ 3 then (if (wrap64 (x4 - 5)) ≤ 3 then (if x3.length < 17592186044416 then (spec_l20Pasted.l1 k x2 (x3 ++ [1]) (wrap64 (x4 + 1)) x250000) else (none)) else (if x2 ≥ 3 then (if (wrap64 (x4 - 5)) ≥ 3 then (if x3.length < 17592186044416 then (spec_l20Pasted.l1 k x2 (x3 ++ [1]) (wrap64 (x4 + 1)) x250000) else (none)) else (if x3.length < 17592186044416 then (spec_l20Pasted.l1 k x2 (x3 ++ [x5]) (wrap64 (x4 + 1)) x250000) else (none))) else (if x3.length < 17592186044416 then (spec_l20Pasted.l1 k x2 (x3 ++ [x5]) (wrap64 (x4 + 1)) x250000) else (none)))) else (if x2 ≥ 3 then (if (wrap64 (x4 - 5)) ≥ 3 then (if x3.length < 17592186044416 then (spec_l20Pasted.l1 k x2 (x3 ++ [1]) (wrap64 (x4 + 1)) x250000) else (none)) else (if x3.length < 17592186044416 then (spec_l20Pasted.l1 k x2 (x3 ++ [x5]) (wrap64 (x4 + 1)) x250000) else (none))) else (if x3.length < 17592186044416 then (spec_l20Pasted.l1 k x2 (x3 ++ [x5]) (wrap64 (x4 + 1)) x250000) else (none)))) else (if x3.length < 17592186044416 then (spec_l20Pasted.l1 k x2 (x3 ++ [x5]) (wrap64 (x4 + 1)) x250000) else (none))
end
def spec_l20Pasted.f (k : Nat)  : Option ((List (List Int)) × List Int) := spec_l20Pasted.l0 k 0 ([] : List (List Int))
theorem spec_l20Pasted.mono_l : ∀ k, (∀ y0 y1, LeO (spec_l20Pasted.l0 k y0 y1) (spec_l20Pasted.l0 (k + 1) y0 y1)) ∧ (∀ y0 y1 y2 y3, LeO (spec_l20Pasted.l1 k y0 y1 y2 y3) (spec_l20Pasted.l1 (k + 1) y0 y1 y2 y3)) ∧ (∀ y0 y1 y2 y3 y4 y5, LeO (spec_l20Pasted.j2 k y0 y1 y2 y3 y4 y5) (spec_l20Pasted.j2 (k + 1) y0 y1 y2 y3 y4 y5)) ∧ (∀ y0 y1 y2 y3 y4 y5, LeO (spec_l20Pasted.j3 k y0 y1 y2 y3 y4 y5) (spec_l20Pasted.j3 (k + 1) y0 y1 y2 y3 y4 y5))
 | 0 => ⟨fun _ _ r h => by simp [spec_l20Pasted.l0] at h, fun _ _ _ _ r h => by simp [spec_l20Pasted.l1] at h, fun _ _ _ _ _ _ r h => by simp [spec_l20Pasted.j2] at h, fun _ _ _ _ _ _ r h => by simp [spec_l20Pasted.j3] at h⟩
 | k + 1 => by
  obtain ⟨ih0, ih1, ih2, ih3⟩ := spec_l20Pasted.mono_l k
  refine ⟨?_, ?_, ?_, ?_⟩
  ·intro y0 y1
   unfold spec_l20Pasted.l0
   repeat' first
   | (with_reducible exact ih0 _ _)
   | (with_reducible exact ih1 _ _ _ _)
   | (with_reducible exact ih2 _ _ _ _ _ _)
   | (with_reducible exact ih3 _ _ _ _ _ _)
   | (with_reducible exact LeO.refl _)
   | (with_reducible exact LeO.none _)
   | (with_reducible refine LeO.ite ?_ ?_)
   | (with_reducible refine LeO.bind ?_ (fun _ => ?_))
   | exact ih0 _ _
   | exact ih1 _ _ _ _
   | exact ih2 _ _ _ _ _ _
   | exact ih3 _ _ _ _ _ _
   | exact LeO.none _
   | refine LeO.ite ?_ ?_
   | refine LeO.bind ?_ (fun _ => ?_)
  ·intro y0 y1 y2 y3
   unfold spec_l20Pasted.l1
   repeat' first
   | (with_reducible exact ih0 _ _)
   | (with_reducible exact ih1 _ _ _ _)
   | (with_reducible exact ih2 _ _ _ _ _ _)
   | (with_reducible exact ih3 _ _ _ _ _ _)
   | (with_reducible exact LeO.refl _)
   | (with_reducible exact LeO.none _)
   | (with_reducible refine LeO.ite ?_ ?_)
   | (with_reducible refine LeO.bind ?_ (fun _ => ?_))
   | exact ih0 _ _
   | exact ih1 _ _ _ _
   | exact ih2 _ _ _ _ _ _
   | exact ih3 _ _ _ _ _ _
   | exact LeO.none _
   | refine LeO.ite ?_ ?_
   | refine LeO.bind ?_ (fun _ => ?_)
  ·intro y0 y1 y2 y3 y4 y5
   unfold spec_l20Pasted.j2
   repeat' first
   | (with_reducible exact ih0 _ _)
   | (with_reducible exact ih1 _ _ _ _)
   | (with_reducible exact ih2 _ _ _ _ _ _)
   | (with_reducible exact ih3 _ _ _ _ _ _)
   | (with_reducible exact LeO.refl _)
   | (with_reducible exact LeO.none _)
   | (with_reducible refine LeO.ite ?_ ?_)
   | (with_reducible refine LeO.bind ?_ (fun _ => ?_))
   | exact ih0 _ _
   | exact ih1 _ _ _ _
   | exact ih2 _ _ _ _ _ _
   | exact ih3 _ _ _ _ _ _
   | exact LeO.none _
   | refine LeO.ite ?_ ?_
   | refine LeO.bind ?_ (fun _ => ?_)
  ·intro y0 y1 y2 y3 y4 y5
   unfold spec_l20Pasted.j3
   repeat' first
   | (with_reducible exact ih0 _ _)
   | (with_reducible exact ih1 _ _ _ _)
   | (with_reducible exact ih2 _ _ _ _ _ _)
   | (with_reducible exact ih3 _ _ _ _ _ _)
   | (with_reducible exact LeO.refl _)
   | (with_reducible exact LeO.none _)
   | (with_reducible refine LeO.ite ?_ ?_)
   | (with_reducible refine LeO.bind ?_ (fun _ => ?_))
   | exact ih0 _ _
   | exact ih1 _ _ _ _
   | exact ih2 _ _ _ _ _ _
   | exact ih3 _ _ _ _ _ _
   | exact LeO.none _
   | refine LeO.ite ?_ ?_
   | refine LeO.bind ?_ (fun _ => ?_)
theorem spec_l20Pasted.mono : ∀ k, LeO (spec_l20Pasted.f k ) (spec_l20Pasted.f (k + 1) ) := by
 intro  k
 obtain ⟨ih0, ih1, ih2, ih3⟩ := spec_l20Pasted.mono_l k
 unfold spec_l20Pasted.f
 repeat' first
   | (with_reducible exact ih0 _ _)
   | (with_reducible exact ih1 _ _ _ _)
   | (with_reducible exact ih2 _ _ _ _ _ _)
   | (with_reducible exact ih3 _ _ _ _ _ _)
   | (with_reducible exact LeO.refl _)
   | (with_reducible exact LeO.none _)
   | (with_reducible refine LeO.ite ?_ ?_)
   | (with_reducible refine LeO.bind ?_ (fun _ => ?_))
   | exact ih0 _ _
   | exact ih1 _ _ _ _
   | exact ih2 _ _ _ _ _ _
   | exact ih3 _ _ _ _ _ _
   | exact LeO.none _
   | refine LeO.ite ?_ ?_
   | refine LeO.bind ?_ (fun _ => ?_)
set_option maxHeartbeats 8000000 in
set_option maxRecDepth 100000 in
theorem spec_l20Pasted.calls (k : Nat)  (r1 : List (List Int)) (r2 : List Int) (w : World) (h : spec_l20Pasted.f k  = some (r1, r2)) :
  Calls Tryz.prog 49 #[] w fun e w' => ∃ v0_ v1_ : Value, e = .returned (.agg #[v0_, v1_]) ∧ Kd.S (Kd.slice 3 (Kd.int .i64)) 28 w' w.heap.size (fun k_ => some k_ ≠ (v1_ : Value).ownBlock) v0_ r1 ∧ Kd.R (Kd.int .i64) 3 w' w.heap.size (fun _ => True) v1_ r2 ∧ Below w.heap.size w w' := by
 have hu30:=Tryz.underlying30;have HB:=zqm (Below.refl w.heap.size w);have H:(spec_l20Pasted.l0 k 0 ([]:List (List Int)))=some (r1,r2):=h;clear h;have H':=zqm H;clear H
 go_enter Tryz.func49,Tryz.ntmps49
 go_wp2_with (first|((with_reducible refine gate_dst (N:=0) rfl ?_);refine box_event ?hg (N:=0) ?hd (cs:= #[.slice none 0 0,.slice none 0 0]) (t:=30) ?hr ?_;(case hd=>rfl);(case hg=>rfl);(case hr=> exact zq16);intro b0 hg w1 hbox hb;have f4:=zqm (below_step zq5 hb);have a2:=zqm (hbox);have p9:=zqm ((by rw [hg];exact(below_size zq5):w.heap.size≤b0));have a6:=zqm ((by rw [hg];exact(below_size zq5):w.heap.size≤b0));clear HB;have HB:=f4;clear f4 hb hbox hg)|((with_reducible refine gate_dst (N:=1) rfl ?_);refine box_event ?hg (N:=1) ?hd (cs:= #[.slice none 0 0,.slice none 0 0]) (t:=30) ?hr ?_;(case hd=>rfl);(case hg=>rfl);(case hr=> exact zq16);intro a9 hg w2 hbox hb;have f4:=zqm (blk_below (g:=b0) (o:= .cells #[.slice none 0 0,.slice none 0 0] 30 (0,0)) (zqe a2.out) hb);have m9:=zqm (below_step zq72 hb);have a1:=zqm (hbox);have q0:=zqm ((by rw [hg];exact(below_size zq72):w.heap.size≤a9));have a7:=zqm ((by rw [hg];exact(below_size zq72):w.heap.size≤a9));have b4:=zqm ((by rw [hg];exact Nat.ne_of_lt (blk_lt (g:=b0) (o:= .cells #[.slice none 0 0,.slice none 0 0] 30 (0,0)) (zqe a2.out)):b0≠a9));have b8:=zqm ((by rw [hg];exact Nat.ne_of_gt (blk_lt (g:=b0) (o:= .cells #[.slice none 0 0,.slice none 0 0] 30 (0,0)) (zqe a2.out)):a9≠b0));clear a2 HB;have a2:=f4;have HB:=m9;clear f4 m9 hb hbox hg;have q5:=b8.out;have q6:=b4.out;have p3:w2.cell? ⟨a9,0,none⟩=some (.slice none 0 0):=(blk_cell a1.out 0).trans rfl;have p4:w2.cell? ⟨a9,1,none⟩=some (.slice none 0 0):=(blk_cell a1.out 1).trans rfl;have p5:=blk_frozen a1.out 0;have p6:=blk_frozen a1.out 1))
 go_loopg [2] k (fun kq v2 w'=> ∃(a3:Int) (a0:List (List Int)) (a8:Value),v2= .int .i64 a3∧Aside0 (spec_l20Pasted.l0 kq a3 a0=some (r1,r2))∧Aside0 (kq≤k)∧Aside0 (Kd.S (Kd.slice 3 (Kd.int .i64)) 28 w' w.heap.size (fun _=>True) a8 a0)∧Aside0 (w'.heap[b0]? =some (.cells #[(.slice none 0 0),(.slice none 0 0)] 30 (0,0)))∧Aside0 (w'.heap[a9]? =some (.cells #[a8,(.slice none 0 0)] 30 (0,0)))∧Aside0 (Below w.heap.size w w'))
 case atStart=>exact⟨(0),(([]:List (List Int))),(.slice none 0 0),zq8,H',⟨Nat.le_refl _⟩,⟨zq60⟩,⟨by refine zqe ?_;refine blk_far ?_ b4.out _;refine zqe ?_;refine blk_far ?_ b4.out _;refine zqe ?_;exact a2.out⟩,⟨zq83⟩,⟨zq6⟩⟩
 case round=>
  clear H';obtain⟨a3,a0,a8,rfl,HA,b2,HO_250000,a2,a1,HB⟩:=hrel
  cases gk with
  |zero=>exact absurd HA.out (by simp [spec_l20Pasted.l0])
  |succ k1=>
   have H:=HA.out;clear HA;simp only [spec_l20Pasted.l0] at H
   by_cases c5:a3<12
   ·rw [if_pos c5] at H;have n1:decide (a3<12)=true:=decide_eq_true c5;clear c5;obtain⟨i3,e1⟩: ∃y_:List Int,y_=(([]:List Int)):=⟨_,rfl⟩;replace H:(spec_l20Pasted.l1 k1 a3 i3 0 a0)=some (r1,r2):=zqy e1 H;have f9:=zqm e1;clear e1;have H':=zqm H;clear H
    go_wp2_with (first|((with_reducible refine gate_dst (N:=12) rfl ?_);refine Kd.R_lit (Kd.int .i64) _ 3 ?hg (N:=12) ?hd (xs:=([]:List Int)) (inner:= []) (ok:=fun _=>True) (okp:=fun _=>True) ?hr ?hp (fun _ hk=>hk) trivial (Below.refl _ _) (Nat.le_refl _) (by simp) ?_;(case hd=>rfl);(case hg=>rfl);(case hr=> exact zq16);(case hp=>exact(Reps.none _ _));intro q8 w6 d7 hb hg_ hnew_;clear hg_ hnew_;(first|rw [← f9.out] at d7|(simp only [Int.reduceToNat] at d7;rw [← f9.out] at d7));replace HO_250000:=zqm (Kd.S_elder' (zqfS HO_250000.out) (Kd.R_base d7) hb);have j5:=zqm (Kd.R_lower d7 (below_size zq6));replace a2:=zqm (blk_below (g:=b0) (o:= .cells #[.slice none 0 0,.slice none 0 0] 30 (0,0)) (zqe a2.out) hb);replace a1:=zqm (blk_below (g:=a9) (o:= .cells #[a8,.slice none 0 0] 30 (0,0)) (zqe a1.out) hb);replace HB:=zqm (below_step zq6 hb);clear hb d7))
    go_loopg [3,4] k1 (fun kq v3 v4 w'=> ∃(a5:List Int) (a4:Int),v4= .int .i64 a4∧Aside0 (spec_l20Pasted.l1 kq a3 a5 a4 a0=some (r1,r2))∧Aside0 (kq≤k1)∧Aside0 (Kd.R (Kd.int .i64) 3 w' w.heap.size (fun _=>True) v3 a5)∧Aside0 (Kd.S (Kd.slice 3 (Kd.int .i64)) 28 w' w.heap.size (fun k_=>some k_≠(v3:Value).ownBlock) a8 a0)∧Aside0 (w'.heap[b0]? =some (.cells #[(.slice none 0 0),(.slice none 0 0)] 30 (0,0)))∧Aside0 (w'.heap[a9]? =some (.cells #[a8,(.slice none 0 0)] 30 (0,0)))∧Aside0 (Below w.heap.size w w'))
    case atStart=>exact⟨(i3),(0),zq8,H',⟨Nat.le_refl _⟩,⟨zqfR j5.out⟩,⟨zq49⟩,⟨zqe a2.out⟩,⟨zqe a1.out⟩,⟨zq6⟩⟩
    case round=>
     clear H';obtain⟨a5,a4,rfl,HA,b3,HO_3,HO_250000,a2,a1,HB⟩:=hrel
     cases gk with
     |zero=>exact absurd HA.out (by simp [spec_l20Pasted.l1])
     |succ k2=>
      have H:=HA.out;clear HA;simp only [spec_l20Pasted.l1] at H
      by_cases c8:a4<12
      ·rw [if_pos c8] at H;have n2:decide (a4<12)=true:=decide_eq_true c8;clear c8;have i0:=zqm H;clear H
       go_upto_region 10 with (fail)
       go_cut [17] (fun p7 wc=> ∃(kq:Nat) (c4:Bool),p7= .bool c4∧Aside0 (spec_l20Pasted.j2 kq a3 a5 a4 0 c4 a0=some (r1,r2))∧Aside0 (kq≤k2)∧Aside0 (Kd.R (Kd.int .i64) 3 wc w.heap.size (fun _=>True) u3 a5)∧Aside0 (Kd.S (Kd.slice 3 (Kd.int .i64)) 28 wc w.heap.size (fun k_=>some k_≠(u3:Value).ownBlock) a8 a0)∧Aside0 (wc.heap[b0]? =some (.cells #[(.slice none 0 0),(.slice none 0 0)] 30 (0,0)))∧Aside0 (wc.heap[a9]? =some (.cells #[a8,(.slice none 0 0)] 30 (0,0)))∧Aside0 (Below w.heap.size w wc))
       case first=>
        have H:=i0.out;clear i0
        by_cases c7:a3=a4
        ·rw [if_pos c7] at H;have c0:(a3==a4)=true:=beq_iff_eq.mpr c7;have l9:(a3 !=a4)=false:=bne_eq_false_iff_eq.mpr c7;clear c7;(first|rw [c0]|(simp only [i64_w,i32_w];rw [c0])|skip);have H':=zqm H;clear H
         go_wp2
         go_meet
         case rel=>exact⟨_,(true),zq8,H',⟨zq128⟩,⟨zqfR HO_3.out⟩,⟨zqfS HO_250000.out⟩,⟨zqe a2.out⟩,⟨zqe a1.out⟩,⟨zq6⟩⟩
        ·rw [if_neg c7] at H;have c0:(a3==a4)=false:=beq_eq_false_iff_ne.mpr c7;have l9:(a3 !=a4)=true:=bne_iff_ne.mpr c7;(first|rw [c0]|(simp only [i64_w,i32_w];rw [c0])|skip)
         by_cases c9:a3=0
         ·rw [if_pos c9] at H;have m0:(a3==0)=true:=beq_iff_eq.mpr c9;have m1:(a3 !=0)=false:=bne_eq_false_iff_eq.mpr c9;clear c9;have H':=zqm H;clear H
          go_wp2
          go_meet
          case rel=>exact⟨_,(true),zq8,H',⟨zq128⟩,⟨zqfR HO_3.out⟩,⟨zqfS HO_250000.out⟩,⟨zqe a2.out⟩,⟨zqe a1.out⟩,⟨zq6⟩⟩
         ·rw [if_neg c9] at H;have m0:(a3==0)=false:=beq_eq_false_iff_ne.mpr c9;have m1:(a3 !=0)=true:=bne_iff_ne.mpr c9;have H':=zqm H;clear H
          go_wp2
          go_meet
          case rel=>exact⟨_,((a4==11)),zq8,H',⟨zq128⟩,⟨zqfR HO_3.out⟩,⟨zqfS HO_250000.out⟩,⟨zqe a2.out⟩,⟨zqe a1.out⟩,⟨zq6⟩⟩
       case rest=>
        clear i0;obtain⟨kq,c4,rfl,HA,b6,HO_3,HO_250000,a2,a1,HB⟩:=hcut
        cases kq with
        |zero=>exact absurd HA.out (by simp [spec_l20Pasted.j2])
        |succ b7=>
         have H:=HA.out;clear HA;simp only [spec_l20Pasted.j2] at H
         by_cases g0:c4=true
         ·subst g0;(have H1:(if a5.length<17592186044416 then(spec_l20Pasted.l1 b7 a3 (a5 ++ [1]) (wrap64 (a4+1)) a0) else(none))=some (r1,r2):=by rw [if_pos rfl] at H;exact H);clear H;have H:=H1;clear H1
          by_cases g1:a5.length<17592186044416
          ·rw [if_pos g1] at H;have LMc13:=zqm g1;clear g1;obtain⟨i4,e3⟩: ∃y_:List Int,y_=(a5 ++ [1]):=⟨_,rfl⟩;replace H:(spec_l20Pasted.l1 b7 a3 i4 (wrap64 (a4+1)) a0)=some (r1,r2):=zqy e3 H;have k8:=zqm e3;clear e3;have H':=zqm H;clear H
           go_wp2_with (first|((with_reducible refine gate_builtin (b:= .append) (xs:= #[.tmp 59,.tmp 61]) rfl ?_);at_builtin;refine Kd.R_append (Kd.int .i64) (w0:=w) w.heap.size rfl (.tmp 59) (.tmp 61) 28 3 (.int .i64 0) 8 rfl Tryz.underlying28 info3 rfl (by decide) (by omega) u3 a5 1 [.int .i64 1] (fun _=>True) (fun _=>False) rfl rfl ?aP (fun _ hk=>hk.elim) ?aF ?aO ?aB ?aS ?aL ?_;(case aP=>exact rfl);(case aB=> exact zq22);(case aF=>exact(fun _ _=>trivial));(case aO=>exact(zqfR HO_3.out));(case aS=> exact zq20);(case aL=>have:=LMc13.out;omega);intro r0 s1 ho hb hg hat;rw [← k8.out] at ho;replace HO_250000:=zqm (Kd.S_after (ok:=(fun _=>True)) zq48 hg hat);replace a2:=zqm (blk_grown (g:=b0) (o:= .cells #[.slice none 0 0,.slice none 0 0] 30 (0,0)) (zqe a2.out) hg (Kd.R_ne HO_3.out a2.out (by decide)));replace a1:=zqm (blk_grown (g:=a9) (o:= .cells #[a8,.slice none 0 0] 30 (0,0)) (zqe a1.out) hg (Kd.R_ne HO_3.out a1.out (by decide)));replace HB:=zqm (hb);have j6:=zqm (ho);clear HO_3;clear ho hb hg hat))
           go_roundg b7
           (case measure=>have:=b2.out;have:=b3.out;have:=b6.out;omega);case rel=>exact⟨(i4),(wrap64 (a4+1)),zq8,H',⟨by have:=b2.out;have:=b3.out;have:=b6.out;omega⟩,⟨zqfR j6.out⟩,⟨zq49⟩,⟨zqe a2.out⟩,⟨zqe a1.out⟩,⟨zq6⟩⟩
          ·rw [if_neg g1] at H;exact absurd H (by simp)
         ·replace g0:=Bool.eq_false_iff.mpr g0;subst g0;(have H1:((spec_l1In.f a3 1 5).bind fun f2=>(if f2=true then((spec_l1In.f a4 6 10).bind fun b9=>(if b9=true then(spec_l20Pasted.j3 b7 a3 a5 a4 0 (a3 !=(wrap64 (a4 - 5))) a0) else(spec_l20Pasted.j3 b7 a3 a5 a4 0 false a0))) else(spec_l20Pasted.j3 b7 a3 a5 a4 0 false a0)))=some (r1,r2):=by rw [if_neg (show¬(false=true) by decide)] at H;exact H);clear H;have H:=H1;clear H1;have f5:=zqm H;clear H
          go_upto_region 12 with (fail)
          go_cut [29] (fun p8 wc=> ∃(kq:Nat) (c1:Bool),p8= .bool c1∧Aside0 (spec_l20Pasted.j3 kq a3 a5 a4 0 c1 a0=some (r1,r2))∧Aside0 (kq≤b7)∧Aside0 (Kd.R (Kd.int .i64) 3 wc w.heap.size (fun _=>True) u3 a5)∧Aside0 (Kd.S (Kd.slice 3 (Kd.int .i64)) 28 wc w.heap.size (fun k_=>some k_≠(u3:Value).ownBlock) a8 a0)∧Aside0 (wc.heap[b0]? =some (.cells #[(.slice none 0 0),(.slice none 0 0)] 30 (0,0)))∧Aside0 (wc.heap[a9]? =some (.cells #[a8,(.slice none 0 0)] 30 (0,0)))∧Aside0 (Below w.heap.size w wc))
          case first=>
           have H:=f5.out;clear f5;replace H:=Option.bind_eq_some_iff.mp H;obtain⟨f2,h6,H⟩:=H;replace H:(if f2=true then((spec_l1In.f a4 6 10).bind fun b9=>(if b9=true then(spec_l20Pasted.j3 b7 a3 a5 a4 0 (a3 !=(wrap64 (a4 - 5))) a0) else(spec_l20Pasted.j3 b7 a3 a5 a4 0 false a0))) else(spec_l20Pasted.j3 b7 a3 a5 a4 0 false a0))=some (r1,r2):=H;have h5:=zqm h6;clear h6
           by_cases g2:f2=true
           ·subst g2;(have H1:((spec_l1In.f a4 6 10).bind fun b9=>(if b9=true then(spec_l20Pasted.j3 b7 a3 a5 a4 0 (a3 !=(wrap64 (a4 - 5))) a0) else(spec_l20Pasted.j3 b7 a3 a5 a4 0 false a0)))=some (r1,r2):=by rw [if_pos rfl] at H;exact H);clear H;have H:=H1;clear H1;replace H:=Option.bind_eq_some_iff.mp H;obtain⟨b9,h7,H⟩:=H;replace H:(if b9=true then(spec_l20Pasted.j3 b7 a3 a5 a4 0 (a3 !=(wrap64 (a4 - 5))) a0) else(spec_l20Pasted.j3 b7 a3 a5 a4 0 false a0))=some (r1,r2):=H;have m8:=zqm h7;clear h7
            by_cases g3:b9=true
            ·subst g3;(have H1:(spec_l20Pasted.j3 b7 a3 a5 a4 0 (a3 !=(wrap64 (a4 - 5))) a0)=some (r1,r2):=by rw [if_pos rfl] at H;exact H);clear H;have H:=H1;clear H1;have H':=zqm H;clear H
             go_wp2_with (first|((with_reducible refine gate_callee (f:=58) rfl ?_);refine goesL_ (some 31) rfl rfl Tryz.func58 zqk rfl #[.int .i64 a3,.int .i64 1,.int .i64 5] rfl zq3 ?_;(with_reducible refine(spec_l1In.calls a3 1 5 true _ h5.out).mono ?_);rintro e w' ⟨rfl,⟨nd,rfl⟩⟩;refine⟨_,rfl,?_⟩)|(go_at_call 58;(with_reducible refine(spec_l1In.calls a4 6 10 true _ m8.out).mono ?_);rintro e w' ⟨rfl,⟨nd,rfl⟩⟩))
             go_meet
             case rel=>exact⟨_,((a3 !=(wrap64 (a4 - 5)))),zq8,H',⟨zq111⟩,⟨zqfR HO_3.out⟩,⟨zqfS HO_250000.out⟩,⟨zqe a2.out⟩,⟨zqe a1.out⟩,⟨zq6⟩⟩
            ·replace g3:=Bool.eq_false_iff.mpr g3;subst g3;(have H1:(spec_l20Pasted.j3 b7 a3 a5 a4 0 false a0)=some (r1,r2):=by rw [if_neg (show¬(false=true) by decide)] at H;exact H);clear H;have H:=H1;clear H1;have H':=zqm H;clear H
             go_wp2_with (first|((with_reducible refine gate_callee (f:=58) rfl ?_);refine goesL_ (some 31) rfl rfl Tryz.func58 zqk rfl #[.int .i64 a3,.int .i64 1,.int .i64 5] rfl zq3 ?_;(with_reducible refine(spec_l1In.calls a3 1 5 true _ h5.out).mono ?_);rintro e w' ⟨rfl,⟨nd,rfl⟩⟩;refine⟨_,rfl,?_⟩)|(go_at_call 58;(with_reducible refine(spec_l1In.calls a4 6 10 false _ m8.out).mono ?_);rintro e w' ⟨rfl,⟨nd,rfl⟩⟩))
             go_meet
             case rel=>exact⟨_,(false),zq8,H',⟨zq111⟩,⟨zqfR HO_3.out⟩,⟨zqfS HO_250000.out⟩,⟨zqe a2.out⟩,⟨zqe a1.out⟩,⟨zq6⟩⟩
           ·replace g2:=Bool.eq_false_iff.mpr g2;subst g2;(have H1:(spec_l20Pasted.j3 b7 a3 a5 a4 0 false a0)=some (r1,r2):=by rw [if_neg (show¬(false=true) by decide)] at H;exact H);clear H;have H:=H1;clear H1;have H':=zqm H;clear H
            go_wp2_with (first|((with_reducible refine gate_callee (f:=58) rfl ?_);refine goesL_ (some 31) rfl rfl Tryz.func58 zqk rfl #[.int .i64 a3,.int .i64 1,.int .i64 5] rfl zq3 ?_;(with_reducible refine(spec_l1In.calls a3 1 5 false _ h5.out).mono ?_);rintro e w' ⟨rfl,⟨nd,rfl⟩⟩;refine⟨_,rfl,?_⟩))
            go_meet
            case rel=>exact⟨_,(false),zq8,H',⟨zq111⟩,⟨zqfR HO_3.out⟩,⟨zqfS HO_250000.out⟩,⟨zqe a2.out⟩,⟨zqe a1.out⟩,⟨zq6⟩⟩
          case rest=>
           clear f5;obtain⟨kq,c1,rfl,HA,b5,HO_3,HO_250000,a2,a1,HB⟩:=hcut
           cases kq with
           |zero=>exact absurd HA.out (by simp [spec_l20Pasted.j3])
           |succ b1=>
            have H:=HA.out;clear HA;simp only [spec_l20Pasted.j3] at H
            by_cases g4:c1=true
            ·subst g4;(have H1:(if a3≤3 then(if(wrap64 (a4 - 5))≤3 then(if a5.length<17592186044416 then(spec_l20Pasted.l1 b1 a3 (a5 ++ [1]) (wrap64 (a4+1)) a0) else(none)) else(if a3≥3 then(if(wrap64 (a4 - 5))≥3 then(if a5.length<17592186044416 then(spec_l20Pasted.l1 b1 a3 (a5 ++ [1]) (wrap64 (a4+1)) a0) else(none)) else(if a5.length<17592186044416 then(spec_l20Pasted.l1 b1 a3 (a5 ++ [0]) (wrap64 (a4+1)) a0) else(none))) else(if a5.length<17592186044416 then(spec_l20Pasted.l1 b1 a3 (a5 ++ [0]) (wrap64 (a4+1)) a0) else(none)))) else(if a3≥3 then(if(wrap64 (a4 - 5))≥3 then(if a5.length<17592186044416 then(spec_l20Pasted.l1 b1 a3 (a5 ++ [1]) (wrap64 (a4+1)) a0) else(none)) else(if a5.length<17592186044416 then(spec_l20Pasted.l1 b1 a3 (a5 ++ [0]) (wrap64 (a4+1)) a0) else(none))) else(if a5.length<17592186044416 then(spec_l20Pasted.l1 b1 a3 (a5 ++ [0]) (wrap64 (a4+1)) a0) else(none))))=some (r1,r2):=by rw [if_pos rfl] at H;exact H);clear H;have H:=H1;clear H1
             by_cases d1:a3≤3
             ·rw [if_pos d1] at H;have m2:decide (a3≤3)=true:=decide_eq_true d1;clear d1
              by_cases d2:(wrap64 (a4 - 5))≤3
              ·rw [if_pos d2] at H;have m3:decide ((wrap64 (a4 - 5))≤3)=true:=decide_eq_true d2;clear d2
               by_cases g5:a5.length<17592186044416
               ·rw [if_pos g5] at H;have LMc23:=zqm g5;clear g5;obtain⟨i5,e4⟩: ∃y_:List Int,y_=(a5 ++ [1]):=⟨_,rfl⟩;replace H:(spec_l20Pasted.l1 b1 a3 i5 (wrap64 (a4+1)) a0)=some (r1,r2):=zqy e4 H;have k9:=zqm e4;clear e4;have H':=zqm H;clear H
                go_wp2_with (first|((with_reducible refine gate_builtin (b:= .append) (xs:= #[.tmp 59,.tmp 61]) rfl ?_);at_builtin;refine Kd.R_append (Kd.int .i64) (w0:=w) w.heap.size rfl (.tmp 59) (.tmp 61) 28 3 (.int .i64 0) 8 rfl Tryz.underlying28 info3 rfl (by decide) (by omega) u3 a5 1 [.int .i64 1] (fun _=>True) (fun _=>False) rfl rfl ?aP (fun _ hk=>hk.elim) ?aF ?aO ?aB ?aS ?aL ?_;(case aP=>exact rfl);(case aB=> exact zq22);(case aF=>exact(fun _ _=>trivial));(case aO=>exact(zqfR HO_3.out));(case aS=> exact zq20);(case aL=>have:=LMc23.out;omega);intro r3 s2 ho hb hg hat;rw [← k9.out] at ho;replace HO_250000:=zqm (Kd.S_after (ok:=(fun _=>True)) zq48 hg hat);replace a2:=zqm (blk_grown (g:=b0) (o:= .cells #[.slice none 0 0,.slice none 0 0] 30 (0,0)) (zqe a2.out) hg (Kd.R_ne HO_3.out a2.out (by decide)));replace a1:=zqm (blk_grown (g:=a9) (o:= .cells #[a8,.slice none 0 0] 30 (0,0)) (zqe a1.out) hg (Kd.R_ne HO_3.out a1.out (by decide)));replace HB:=zqm (hb);have j7:=zqm (ho);clear HO_3;clear ho hb hg hat))
                go_roundg b1
                (case measure=> exact zq35);case rel=>exact⟨(i5),(wrap64 (a4+1)),zq8,H',⟨zq35⟩,⟨zqfR j7.out⟩,⟨zq49⟩,⟨zqe a2.out⟩,⟨zqe a1.out⟩,⟨zq6⟩⟩
               ·rw [if_neg g5] at H;exact absurd H (by simp)
              ·rw [if_neg d2] at H;have m3:decide ((wrap64 (a4 - 5))≤3)=false:=decide_eq_false d2;clear d2
               by_cases d3:a3≥3
               ·rw [if_pos d3] at H;have m4:decide (3≤a3)=true:=decide_eq_true d3;clear d3
                by_cases d4:(wrap64 (a4 - 5))≥3
                ·rw [if_pos d4] at H;have m5:decide (3≤(wrap64 (a4 - 5)))=true:=decide_eq_true d4;clear d4
                 by_cases g6:a5.length<17592186044416
                 ·rw [if_pos g6] at H;have LMc27:=zqm g6;clear g6;obtain⟨i6,e5⟩: ∃y_:List Int,y_=(a5 ++ [1]):=⟨_,rfl⟩;replace H:(spec_l20Pasted.l1 b1 a3 i6 (wrap64 (a4+1)) a0)=some (r1,r2):=zqy e5 H;have l2:=zqm e5;clear e5;have H':=zqm H;clear H
                  go_wp2_with (first|((with_reducible refine gate_builtin (b:= .append) (xs:= #[.tmp 59,.tmp 61]) rfl ?_);at_builtin;refine Kd.R_append (Kd.int .i64) (w0:=w) w.heap.size rfl (.tmp 59) (.tmp 61) 28 3 (.int .i64 0) 8 rfl Tryz.underlying28 info3 rfl (by decide) (by omega) u3 a5 1 [.int .i64 1] (fun _=>True) (fun _=>False) rfl rfl ?aP (fun _ hk=>hk.elim) ?aF ?aO ?aB ?aS ?aL ?_;(case aP=>exact rfl);(case aB=> exact zq22);(case aF=>exact(fun _ _=>trivial));(case aO=>exact(zqfR HO_3.out));(case aS=> exact zq20);(case aL=>have:=LMc27.out;omega);intro r4 s3 ho hb hg hat;rw [← l2.out] at ho;replace HO_250000:=zqm (Kd.S_after (ok:=(fun _=>True)) zq48 hg hat);replace a2:=zqm (blk_grown (g:=b0) (o:= .cells #[.slice none 0 0,.slice none 0 0] 30 (0,0)) (zqe a2.out) hg (Kd.R_ne HO_3.out a2.out (by decide)));replace a1:=zqm (blk_grown (g:=a9) (o:= .cells #[a8,.slice none 0 0] 30 (0,0)) (zqe a1.out) hg (Kd.R_ne HO_3.out a1.out (by decide)));replace HB:=zqm (hb);have j8:=zqm (ho);clear HO_3;clear ho hb hg hat))
                  go_roundg b1
                  (case measure=> exact zq35);case rel=>exact⟨(i6),(wrap64 (a4+1)),zq8,H',⟨zq35⟩,⟨zqfR j8.out⟩,⟨zq49⟩,⟨zqe a2.out⟩,⟨zqe a1.out⟩,⟨zq6⟩⟩
                 ·rw [if_neg g6] at H;exact absurd H (by simp)
                ·rw [if_neg d4] at H;have m5:decide (3≤(wrap64 (a4 - 5)))=false:=decide_eq_false d4;clear d4
                 by_cases g7:a5.length<17592186044416
                 ·rw [if_pos g7] at H;have LMc29:=zqm g7;clear g7;obtain⟨i7,e6⟩: ∃y_:List Int,y_=(a5 ++ [0]):=⟨_,rfl⟩;replace H:(spec_l20Pasted.l1 b1 a3 i7 (wrap64 (a4+1)) a0)=some (r1,r2):=zqy e6 H;have l3:=zqm e6;clear e6;have H':=zqm H;clear H
                  go_wp2_with (first|((with_reducible refine gate_builtin (b:= .append) (xs:= #[.tmp 59,.tmp 61]) rfl ?_);at_builtin;refine Kd.R_append (Kd.int .i64) (w0:=w) w.heap.size rfl (.tmp 59) (.tmp 61) 28 3 (.int .i64 0) 8 rfl Tryz.underlying28 info3 rfl (by decide) (by omega) u3 a5 0 [.int .i64 0] (fun _=>True) (fun _=>False) rfl rfl ?aP (fun _ hk=>hk.elim) ?aF ?aO ?aB ?aS ?aL ?_;(case aP=>exact rfl);(case aB=> exact zq22);(case aF=>exact(fun _ _=>trivial));(case aO=>exact(zqfR HO_3.out));(case aS=> exact zq20);(case aL=>have:=LMc29.out;omega);intro r5 s4 ho hb hg hat;rw [← l3.out] at ho;replace HO_250000:=zqm (Kd.S_after (ok:=(fun _=>True)) zq48 hg hat);replace a2:=zqm (blk_grown (g:=b0) (o:= .cells #[.slice none 0 0,.slice none 0 0] 30 (0,0)) (zqe a2.out) hg (Kd.R_ne HO_3.out a2.out (by decide)));replace a1:=zqm (blk_grown (g:=a9) (o:= .cells #[a8,.slice none 0 0] 30 (0,0)) (zqe a1.out) hg (Kd.R_ne HO_3.out a1.out (by decide)));replace HB:=zqm (hb);have j9:=zqm (ho);clear HO_3;clear ho hb hg hat))
                  go_roundg b1
                  (case measure=> exact zq35);case rel=>exact⟨(i7),(wrap64 (a4+1)),zq8,H',⟨zq35⟩,⟨zqfR j9.out⟩,⟨zq49⟩,⟨zqe a2.out⟩,⟨zqe a1.out⟩,⟨zq6⟩⟩
                 ·rw [if_neg g7] at H;exact absurd H (by simp)
               ·rw [if_neg d3] at H;have m4:decide (3≤a3)=false:=decide_eq_false d3;clear d3
                by_cases g8:a5.length<17592186044416
                ·rw [if_pos g8] at H;have LMc31:=zqm g8;clear g8;obtain⟨i8,e7⟩: ∃y_:List Int,y_=(a5 ++ [0]):=⟨_,rfl⟩;replace H:(spec_l20Pasted.l1 b1 a3 i8 (wrap64 (a4+1)) a0)=some (r1,r2):=zqy e7 H;have l4:=zqm e7;clear e7;have H':=zqm H;clear H
                 go_wp2_with (first|((with_reducible refine gate_builtin (b:= .append) (xs:= #[.tmp 59,.tmp 61]) rfl ?_);at_builtin;refine Kd.R_append (Kd.int .i64) (w0:=w) w.heap.size rfl (.tmp 59) (.tmp 61) 28 3 (.int .i64 0) 8 rfl Tryz.underlying28 info3 rfl (by decide) (by omega) u3 a5 0 [.int .i64 0] (fun _=>True) (fun _=>False) rfl rfl ?aP (fun _ hk=>hk.elim) ?aF ?aO ?aB ?aS ?aL ?_;(case aP=>exact rfl);(case aB=> exact zq22);(case aF=>exact(fun _ _=>trivial));(case aO=>exact(zqfR HO_3.out));(case aS=> exact zq20);(case aL=>have:=LMc31.out;omega);intro r6 s5 ho hb hg hat;rw [← l4.out] at ho;replace HO_250000:=zqm (Kd.S_after (ok:=(fun _=>True)) zq48 hg hat);replace a2:=zqm (blk_grown (g:=b0) (o:= .cells #[.slice none 0 0,.slice none 0 0] 30 (0,0)) (zqe a2.out) hg (Kd.R_ne HO_3.out a2.out (by decide)));replace a1:=zqm (blk_grown (g:=a9) (o:= .cells #[a8,.slice none 0 0] 30 (0,0)) (zqe a1.out) hg (Kd.R_ne HO_3.out a1.out (by decide)));replace HB:=zqm (hb);have k0:=zqm (ho);clear HO_3;clear ho hb hg hat))
                 go_roundg b1
                 (case measure=> exact zq35);case rel=>exact⟨(i8),(wrap64 (a4+1)),zq8,H',⟨zq35⟩,⟨zqfR k0.out⟩,⟨zq49⟩,⟨zqe a2.out⟩,⟨zqe a1.out⟩,⟨zq6⟩⟩
                ·rw [if_neg g8] at H;exact absurd H (by simp)
             ·rw [if_neg d1] at H;have m2:decide (a3≤3)=false:=decide_eq_false d1;clear d1
              by_cases d5:a3≥3
              ·rw [if_pos d5] at H;have m6:decide (3≤a3)=true:=decide_eq_true d5;clear d5
               by_cases d6:(wrap64 (a4 - 5))≥3
               ·rw [if_pos d6] at H;have m7:decide (3≤(wrap64 (a4 - 5)))=true:=decide_eq_true d6;clear d6
                by_cases g9:a5.length<17592186044416
                ·rw [if_pos g9] at H;have LMc35:=zqm g9;clear g9;obtain⟨i9,e8⟩: ∃y_:List Int,y_=(a5 ++ [1]):=⟨_,rfl⟩;replace H:(spec_l20Pasted.l1 b1 a3 i9 (wrap64 (a4+1)) a0)=some (r1,r2):=zqy e8 H;have l5:=zqm e8;clear e8;have H':=zqm H;clear H
                 go_wp2_with (first|((with_reducible refine gate_builtin (b:= .append) (xs:= #[.tmp 59,.tmp 61]) rfl ?_);at_builtin;refine Kd.R_append (Kd.int .i64) (w0:=w) w.heap.size rfl (.tmp 59) (.tmp 61) 28 3 (.int .i64 0) 8 rfl Tryz.underlying28 info3 rfl (by decide) (by omega) u3 a5 1 [.int .i64 1] (fun _=>True) (fun _=>False) rfl rfl ?aP (fun _ hk=>hk.elim) ?aF ?aO ?aB ?aS ?aL ?_;(case aP=>exact rfl);(case aB=> exact zq22);(case aF=>exact(fun _ _=>trivial));(case aO=>exact(zqfR HO_3.out));(case aS=> exact zq20);(case aL=>have:=LMc35.out;omega);intro r7 s6 ho hb hg hat;rw [← l5.out] at ho;replace HO_250000:=zqm (Kd.S_after (ok:=(fun _=>True)) zq48 hg hat);replace a2:=zqm (blk_grown (g:=b0) (o:= .cells #[.slice none 0 0,.slice none 0 0] 30 (0,0)) (zqe a2.out) hg (Kd.R_ne HO_3.out a2.out (by decide)));replace a1:=zqm (blk_grown (g:=a9) (o:= .cells #[a8,.slice none 0 0] 30 (0,0)) (zqe a1.out) hg (Kd.R_ne HO_3.out a1.out (by decide)));replace HB:=zqm (hb);have k3:=zqm (ho);clear HO_3;clear ho hb hg hat))
                 go_roundg b1
                 (case measure=> exact zq35);case rel=>exact⟨(i9),(wrap64 (a4+1)),zq8,H',⟨zq35⟩,⟨zqfR k3.out⟩,⟨zq49⟩,⟨zqe a2.out⟩,⟨zqe a1.out⟩,⟨zq6⟩⟩
                ·rw [if_neg g9] at H;exact absurd H (by simp)
               ·rw [if_neg d6] at H;have m7:decide (3≤(wrap64 (a4 - 5)))=false:=decide_eq_false d6;clear d6
                by_cases h0:a5.length<17592186044416
                ·rw [if_pos h0] at H;have LMc37:=zqm h0;clear h0;obtain⟨j0,e9⟩: ∃y_:List Int,y_=(a5 ++ [0]):=⟨_,rfl⟩;replace H:(spec_l20Pasted.l1 b1 a3 j0 (wrap64 (a4+1)) a0)=some (r1,r2):=zqy e9 H;have l6:=zqm e9;clear e9;have H':=zqm H;clear H
                 go_wp2_with (first|((with_reducible refine gate_builtin (b:= .append) (xs:= #[.tmp 59,.tmp 61]) rfl ?_);at_builtin;refine Kd.R_append (Kd.int .i64) (w0:=w) w.heap.size rfl (.tmp 59) (.tmp 61) 28 3 (.int .i64 0) 8 rfl Tryz.underlying28 info3 rfl (by decide) (by omega) u3 a5 0 [.int .i64 0] (fun _=>True) (fun _=>False) rfl rfl ?aP (fun _ hk=>hk.elim) ?aF ?aO ?aB ?aS ?aL ?_;(case aP=>exact rfl);(case aB=> exact zq22);(case aF=>exact(fun _ _=>trivial));(case aO=>exact(zqfR HO_3.out));(case aS=> exact zq20);(case aL=>have:=LMc37.out;omega);intro r8 s7 ho hb hg hat;rw [← l6.out] at ho;replace HO_250000:=zqm (Kd.S_after (ok:=(fun _=>True)) zq48 hg hat);replace a2:=zqm (blk_grown (g:=b0) (o:= .cells #[.slice none 0 0,.slice none 0 0] 30 (0,0)) (zqe a2.out) hg (Kd.R_ne HO_3.out a2.out (by decide)));replace a1:=zqm (blk_grown (g:=a9) (o:= .cells #[a8,.slice none 0 0] 30 (0,0)) (zqe a1.out) hg (Kd.R_ne HO_3.out a1.out (by decide)));replace HB:=zqm (hb);have k4:=zqm (ho);clear HO_3;clear ho hb hg hat))
                 go_roundg b1
                 (case measure=> exact zq35);case rel=>exact⟨(j0),(wrap64 (a4+1)),zq8,H',⟨zq35⟩,⟨zqfR k4.out⟩,⟨zq49⟩,⟨zqe a2.out⟩,⟨zqe a1.out⟩,⟨zq6⟩⟩
                ·rw [if_neg h0] at H;exact absurd H (by simp)
              ·rw [if_neg d5] at H;have m6:decide (3≤a3)=false:=decide_eq_false d5;clear d5
               by_cases h1:a5.length<17592186044416
               ·rw [if_pos h1] at H;have LMc39:=zqm h1;clear h1;obtain⟨j1,f0⟩: ∃y_:List Int,y_=(a5 ++ [0]):=⟨_,rfl⟩;replace H:(spec_l20Pasted.l1 b1 a3 j1 (wrap64 (a4+1)) a0)=some (r1,r2):=zqy f0 H;have l7:=zqm f0;clear f0;have H':=zqm H;clear H
                go_wp2_with (first|((with_reducible refine gate_builtin (b:= .append) (xs:= #[.tmp 59,.tmp 61]) rfl ?_);at_builtin;refine Kd.R_append (Kd.int .i64) (w0:=w) w.heap.size rfl (.tmp 59) (.tmp 61) 28 3 (.int .i64 0) 8 rfl Tryz.underlying28 info3 rfl (by decide) (by omega) u3 a5 0 [.int .i64 0] (fun _=>True) (fun _=>False) rfl rfl ?aP (fun _ hk=>hk.elim) ?aF ?aO ?aB ?aS ?aL ?_;(case aP=>exact rfl);(case aB=> exact zq22);(case aF=>exact(fun _ _=>trivial));(case aO=>exact(zqfR HO_3.out));(case aS=> exact zq20);(case aL=>have:=LMc39.out;omega);intro r9 s8 ho hb hg hat;rw [← l7.out] at ho;replace HO_250000:=zqm (Kd.S_after (ok:=(fun _=>True)) zq48 hg hat);replace a2:=zqm (blk_grown (g:=b0) (o:= .cells #[.slice none 0 0,.slice none 0 0] 30 (0,0)) (zqe a2.out) hg (Kd.R_ne HO_3.out a2.out (by decide)));replace a1:=zqm (blk_grown (g:=a9) (o:= .cells #[a8,.slice none 0 0] 30 (0,0)) (zqe a1.out) hg (Kd.R_ne HO_3.out a1.out (by decide)));replace HB:=zqm (hb);have k5:=zqm (ho);clear HO_3;clear ho hb hg hat))
                go_roundg b1
                (case measure=> exact zq35);case rel=>exact⟨(j1),(wrap64 (a4+1)),zq8,H',⟨zq35⟩,⟨zqfR k5.out⟩,⟨zq49⟩,⟨zqe a2.out⟩,⟨zqe a1.out⟩,⟨zq6⟩⟩
               ·rw [if_neg h1] at H;exact absurd H (by simp)
            ·replace g4:=Bool.eq_false_iff.mpr g4;subst g4;(have H1:(if a5.length<17592186044416 then(spec_l20Pasted.l1 b1 a3 (a5 ++ [0]) (wrap64 (a4+1)) a0) else(none))=some (r1,r2):=by rw [if_neg (show¬(false=true) by decide)] at H;exact H);clear H;have H:=H1;clear H1
             by_cases h2:a5.length<17592186044416
             ·rw [if_pos h2] at H;have LMc41:=zqm h2;clear h2;obtain⟨j4,f1⟩: ∃y_:List Int,y_=(a5 ++ [0]):=⟨_,rfl⟩;replace H:(spec_l20Pasted.l1 b1 a3 j4 (wrap64 (a4+1)) a0)=some (r1,r2):=zqy f1 H;have l8:=zqm f1;clear f1;have H':=zqm H;clear H
              go_wp2_with (first|((with_reducible refine gate_builtin (b:= .append) (xs:= #[.tmp 59,.tmp 61]) rfl ?_);at_builtin;refine Kd.R_append (Kd.int .i64) (w0:=w) w.heap.size rfl (.tmp 59) (.tmp 61) 28 3 (.int .i64 0) 8 rfl Tryz.underlying28 info3 rfl (by decide) (by omega) u3 a5 0 [.int .i64 0] (fun _=>True) (fun _=>False) rfl rfl ?aP (fun _ hk=>hk.elim) ?aF ?aO ?aB ?aS ?aL ?_;(case aP=>exact rfl);(case aB=> exact zq22);(case aF=>exact(fun _ _=>trivial));(case aO=>exact(zqfR HO_3.out));(case aS=> exact zq20);(case aL=>have:=LMc41.out;omega);intro s0 s9 ho hb hg hat;rw [← l8.out] at ho;replace HO_250000:=zqm (Kd.S_after (ok:=(fun _=>True)) zq48 hg hat);replace a2:=zqm (blk_grown (g:=b0) (o:= .cells #[.slice none 0 0,.slice none 0 0] 30 (0,0)) (zqe a2.out) hg (Kd.R_ne HO_3.out a2.out (by decide)));replace a1:=zqm (blk_grown (g:=a9) (o:= .cells #[a8,.slice none 0 0] 30 (0,0)) (zqe a1.out) hg (Kd.R_ne HO_3.out a1.out (by decide)));replace HB:=zqm (hb);have k6:=zqm (ho);clear HO_3;clear ho hb hg hat))
              go_roundg b1
              (case measure=> exact zq35);case rel=>exact⟨(j4),(wrap64 (a4+1)),zq8,H',⟨zq35⟩,⟨zqfR k6.out⟩,⟨zq49⟩,⟨zqe a2.out⟩,⟨zqe a1.out⟩,⟨zq6⟩⟩
             ·rw [if_neg h2] at H;exact absurd H (by simp)
      ·rw [if_neg c8] at H;have n2:decide (a4<12)=false:=decide_eq_false c8;clear c8
       by_cases h3:a0.length<5864062014805
       ·rw [if_pos h3] at H;have LMc43:=zqm h3;clear h3;obtain⟨f3,e2⟩: ∃y_:List (List Int),y_=(a0 ++ [a5]):=⟨_,rfl⟩;replace H:(spec_l20Pasted.l0 k2 (wrap64 (a3+1)) f3)=some (r1,r2):=zqy e2 H;have k7:=zqm e2;clear e2;have H':=zqm H;clear H;have q1:=b8.out;have q3:=b4.out;have n7:wr.cell? ⟨a9,0,none⟩=some (a8):=(blk_cell a1.out 0).trans rfl;have n8:wr.cell? ⟨a9,1,none⟩=some (.slice none 0 0):=(blk_cell a1.out 1).trans rfl;have o5:=blk_frozen a1.out 0;have o6:=blk_frozen a1.out 1;obtain⟨h8,i1,n3⟩:=Kd.R_slice HO_3.out;subst n3
        go_wp2_with (first|((with_reducible refine gate_builtin (b:= .append) (xs:= #[.tmp 64,.tmp 66]) rfl ?_);at_builtin;refine Kd.S_append (Kd.slice 3 (Kd.int .i64)) (w0:=w) w.heap.size rfl (.tmp 64) (.tmp 66) 27 28 (.slice none 0 0) 24 rfl Tryz.underlying27 info28 rfl (by decide) (by omega) a8 a0 a5 [.slice h8 a5.length i1] (fun _=>True) (fun k_=>some k_=(.slice h8 a5.length i1:Value).ownBlock) rfl rfl ?aP (fun k_ hk_=>((Kd.R_mono (ok':=fun k_=>((fun _=>True)) k_∧some k_≠(a8:Value).ownBlock) (Kd.R_apart' (HO_3.out) (Kd.S_typed HO_250000.out) (by decide)) (fun k_ hk=>⟨trivial,hk.2⟩))).1 k_ hk_.symm) ?aF ?aO ?aB ?aS ?aL ?_;(case aP=>exact Kd.M_row (Kd.R_mono (Kd.R_tight rfl (Kd.R_mono (ok':=fun k_=>((fun _=>True)) k_∧some k_≠(a8:Value).ownBlock) (Kd.R_apart' (HO_3.out) (Kd.S_typed HO_250000.out) (by decide)) (fun k_ hk=>⟨trivial,hk.2⟩))) (fun _ h_=>h_)));(case aB=> exact zq22);(case aF=>exact(fun _ _=>trivial));(case aO=>exact(by refine zqfS ?_;exact Kd.S_mono HO_250000.out (fun k_ hk=>⟨trivial,fun e_=>hk e_⟩)));(case aS=> exact zq20);(case aL=>have:=LMc43.out;omega);intro q9 n0 ho hb hg hat;rw [← k7.out] at ho;replace a2:=zqm (blk_grown (g:=b0) (o:= .cells #[.slice none 0 0,.slice none 0 0] 30 (0,0)) (zqe a2.out) hg (Kd.S_ne HO_250000.out a2.out (by decide)));replace a1:=zqm (blk_grown (g:=a9) (o:= .cells #[a8,.slice none 0 0] 30 (0,0)) (zqe a1.out) hg (Kd.S_ne HO_250000.out a1.out (by decide)));replace HB:=zqm (hb);have f7:=zqm (ho);clear HO_250000 HO_3;clear ho hb hg hat;obtain⟨h9,i2,n4⟩:=Kd.S_slice f7.out;subst n4;have n9:n0.cell? ⟨a9,0,none⟩=some (a8):=(blk_cell a1.out 0).trans rfl;have o0:n0.cell? ⟨a9,1,none⟩=some (.slice none 0 0):=(blk_cell a1.out 1).trans rfl;have o7:=blk_frozen a1.out 0;have o8:=blk_frozen a1.out 1))
        go_roundg k2
        (case measure=>have:=b2.out;have:=b3.out;omega);case rel=>exact⟨(wrap64 (a3+1)),(f3),(.slice h9 f3.length i2),zq8,H',⟨by have:=b2.out;have:=b3.out;omega⟩,⟨by refine zqfS ?_;exact Kd.S_mono (Kd.S_far (p:=⟨a9,0,none⟩) (Kd.S_types f7.out a1.out (by decide)) (fun _ hk=>hk.2) (.slice h9 f3.length i2)) (fun _ hk=>trivial)⟩,⟨by refine zqe ?_;refine blk_far ?_ b4.out _;refine zqe ?_;exact a2.out⟩,⟨by refine zqe ?_;refine blk_put (cs:= #[a8,.slice none 0 0]) ?_ 0 _ rfl;refine zqe ?_;exact a1.out⟩,⟨zq6⟩⟩
       ·rw [if_neg h3] at H;exact absurd H (by simp)
   ·rw [if_neg c5] at H;have n1:decide (a3<12)=false:=decide_eq_false c5;clear c5;obtain⟨c3,e0⟩: ∃y_:List Int,y_=(([11,6,7,8,9,10,1,2,3,4,5,0]:List Int)):=⟨_,rfl⟩;replace H:(some (a0,c3))=some (r1,r2):=zqy e0 H;have f8:=zqm e0;clear e0;simp only [Option.some.injEq,Prod.mk.injEq] at H;obtain⟨rfl,rfl⟩:=H
    go_wp2_with (first|((with_reducible refine gate_dst (N:=69) rfl ?_);refine Kd.R_lit (Kd.int .i64) _ 3 ?hg (N:=69) ?hd (xs:=([11,6,7,8,9,10,1,2,3,4,5,0]:List Int)) (inner:= [.int .i64 11,.int .i64 6,.int .i64 7,.int .i64 8,.int .i64 9,.int .i64 10,.int .i64 1,.int .i64 2,.int .i64 3,.int .i64 4,.int .i64 5,.int .i64 0]) (ok:=fun _=>True) (okp:=fun _=>True) ?hr ?hp (fun _ hk=>hk) trivial (Below.refl _ _) (Nat.le_refl _) (by simp) ?_;(case hd=>rfl);(case hg=>rfl);(case hr=> exact zq16);(case hp=>exact(Reps.one (show Kd.M (Kd.int .i64) _ _ _ 11 [.int .i64 11] from rfl) (Reps.one (show Kd.M (Kd.int .i64) _ _ _ 6 [.int .i64 6] from rfl) (Reps.one (show Kd.M (Kd.int .i64) _ _ _ 7 [.int .i64 7] from rfl) (Reps.one (show Kd.M (Kd.int .i64) _ _ _ 8 [.int .i64 8] from rfl) (Reps.one (show Kd.M (Kd.int .i64) _ _ _ 9 [.int .i64 9] from rfl) (Reps.one (show Kd.M (Kd.int .i64) _ _ _ 10 [.int .i64 10] from rfl) (Reps.one (show Kd.M (Kd.int .i64) _ _ _ 1 [.int .i64 1] from rfl) (Reps.one (show Kd.M (Kd.int .i64) _ _ _ 2 [.int .i64 2] from rfl) (Reps.one (show Kd.M (Kd.int .i64) _ _ _ 3 [.int .i64 3] from rfl) (Reps.one (show Kd.M (Kd.int .i64) _ _ _ 4 [.int .i64 4] from rfl) (Reps.one (show Kd.M (Kd.int .i64) _ _ _ 5 [.int .i64 5] from rfl) (Reps.one (show Kd.M (Kd.int .i64) _ _ _ 0 [.int .i64 0] from rfl) (Reps.none _ _))))))))))))));intro q7 h4 c2 hb hg_ hnew_;clear hg_ hnew_;(first|rw [← f8.out] at c2|(simp only [Int.reduceToNat] at c2;rw [← f8.out] at c2));replace HO_250000:=zqm (Kd.S_elder' (zqfS HO_250000.out) (Kd.R_base c2) hb);have f6:=zqm (Kd.R_lower c2 (below_size zq6));replace a2:=zqm (blk_below (g:=b0) (o:= .cells #[.slice none 0 0,.slice none 0 0] 30 (0,0)) (zqe a2.out) hb);replace a1:=zqm (blk_below (g:=a9) (o:= .cells #[a8,.slice none 0 0] 30 (0,0)) (zqe a1.out) hb);replace HB:=zqm (below_step zq6 hb);clear hb c2;obtain⟨c6,d0,n5⟩:=Kd.R_slice f6.out;subst n5;have q2:=b8.out;have q4:=b4.out;have o1:h4.cell? ⟨a9,0,none⟩=some (a8):=(blk_cell a1.out 0).trans rfl;have o2:h4.cell? ⟨a9,1,none⟩=some (.slice none 0 0):=(blk_cell a1.out 1).trans rfl;have o9:=blk_frozen a1.out 0;have p0:=blk_frozen a1.out 1;obtain⟨d8,d9,n6⟩:=Kd.S_slice HO_250000.out;subst n6;have o3:h4.cell? ⟨b0,0,none⟩=some (.slice none 0 0):=(blk_cell a2.out 0).trans rfl;have o4:h4.cell? ⟨b0,1,none⟩=some (.slice none 0 0):=(blk_cell a2.out 1).trans rfl;have p1:=blk_frozen a2.out 0;have p2:=blk_frozen a2.out 1))
    refine bodyPost_ret (results_cell_row rfl _ _ b0 30 #[.slice d8 a0.length d9,.slice c6 c3.length d0] (0,0) _ rfl (by refine zqe ?_;refine blk_put (cs:= #[.slice d8 a0.length d9,.slice none 0 0]) ?_ 1 _ rfl;refine zqe ?_;refine blk_put (cs:= #[.slice none 0 0,.slice none 0 0]) ?_ 0 _ rfl;refine zqe ?_;refine blk_far ?_ b4.out _;refine zqe ?_;exact a2.out) Tryz.underlying30 rfl zqk) rfl ?_;exact⟨_,_,zq18,by refine zqfS ?_;exact Kd.S_mono (Kd.S_far (p:=⟨b0,1,none⟩) (Kd.S_far (p:=⟨b0,0,none⟩) (Kd.S_far (p:=⟨a9,1,none⟩) (Kd.S_types (Kd.S_types HO_250000.out a1.out (by decide)) a2.out (by decide)) (fun _ hk=>hk.1.2) (.slice c6 c3.length d0)) (fun _ hk=>hk.2) (.slice d8 a0.length d9)) (fun _ hk=>hk.2) (.slice c6 c3.length d0)) (fun _ hk=>hk.1.1.2),by refine zqfR ?_;exact Kd.R_mono (Kd.R_far (p:=⟨b0,1,none⟩) (Kd.R_far (p:=⟨b0,0,none⟩) (Kd.R_far (p:=⟨a9,1,none⟩) (Kd.R_types (Kd.R_types f6.out a1.out (by decide)) a2.out (by decide)) (fun _ hk=>hk.1.2) (.slice c6 c3.length d0)) (fun _ hk=>hk.2) (.slice d8 a0.length d9)) (fun _ hk=>hk.2) (.slice c6 c3.length d0)) (fun _ hk=>trivial),zq6⟩
end
section
attribute [local go_sem] max2_int min2_int max_two min_two max_three min_three max_four min_four
mutual
def spec_l20Rename.l0 : Nat → List Int → List Int → Int → List (List Int) → List Int → Option ((List (List Int)) × List Int)
 | 0, _, _, _, _, _ => none
 | k + 1, x1, x5, x6, x289000, x289001 => if x6 < (x1.length : Int) then (if 0 ≤ x6 then (if 0 ≤ (rd x1 x6) then (if (rd x1 x6) < (x5.length : Int) then (spec_l20Rename.l0 k x1 (x5.set ((rd x1 x6) : Int).toNat x6) (wrap64 (x6 + 1)) x289000 x289001) else (none)) else (none)) else (none)) else (spec_l20Rename.l1 k x1 x5 0 x289000 x289001 ([] : List (List Int)) ([] : List Int))
def spec_l20Rename.l1 : Nat → List Int → List Int → Int → List (List Int) → List Int → List (List Int) → List Int → Option ((List (List Int)) × List Int)
 | 0, _, _, _, _, _, _, _ => none
 | k + 1, x1, x5, x8, x289000, x289001, x296000, x296001 => if x8 < (x1.length : Int) then (spec_l20Rename.l2 k x1 x5 x8 (([] : List Int)) 0 x289000 x289001 x296000 x296001) else (some (x296000, x296001))
def spec_l20Rename.l2 : Nat → List Int → List Int → Int → List Int → Int → List (List Int) → List Int → List (List Int) → List Int → Option ((List (List Int)) × List Int)
 | 0, _, _, _, _, _, _, _, _, _ => none
 | k + 1, x1, x5, x8, x9, x10, x289000, x289001, x296000, x296001 => if x10 < (x1.length : Int) then (if 0 ≤ x8 then (if x8 < (x1.length : Int) then (if 0 ≤ (rd x1 x8) then (if (rd x1 x8) < (x289000.length : Int) then (if 0 ≤ x10 then (if 0 ≤ (rd x1 x10) then (if (rd x1 x10) < ((rd_L3 x289000 (rd x1 x8)).length : Int) then (if x9.length < 17592186044416 then (spec_l20Rename.l2 k x1 x5 x8 (x9 ++ [rd (rd_L3 x289000 (rd x1 x8)) (rd x1 x10)]) (wrap64 (x10 + 1)) x289000 x289001 x296000 x296001) else (none)) else (none)) else (none)) else (none)) else (none)) else (none)) else (none)) else (none)) else (if x296000.length < 5864062014805 then (if 0 ≤ x8 then (if x8 < (x1.length : Int) then (if 0 ≤ (rd x1 x8) then (if (rd x1 x8) < (x289001.length : Int) then (if 0 ≤ (rd x289001 (rd x1 x8)) then (if (rd x289001 (rd x1 x8)) < (x5.length : Int) then (if x296001.length < 17592186044416 then (spec_l20Rename.l1 k x1 x5 (wrap64 (x8 + 1)) x289000 x289001 (x296000 ++ [x9]) (x296001 ++ [rd x5 (rd x289001 (rd x1 x8))])) else (none)) else (none)) else (none)) else (none)) else (none)) else (none)) else (none)) else (none))
end
def spec_l20Rename.f (k : Nat) (l0_0 : List (List Int)) (l0_1 : List Int) (l1 : List Int) : Option ((List (List Int)) × List Int) := if 0 ≤ (l1.length : Int) then (if ((l1.length : Int) : Int).toNat ≤ 35184372088832 then (spec_l20Rename.l0 k l1 (List.replicate ((l1.length : Int) : Int).toNat 0) 0 l0_0 l0_1) else (none)) else (none)
def spec_l20Rename.T14 : Bool × List (List Nat × List Nat) := (true, [([], []), ([], []), ([1], [1]), ([], []), ([], []), ([3, 4], [3, 4]), ([5], [5]), ([2, 6], [2, 6]), ([7], [7]), ([], []), ([], []), ([9, 10], [9, 10]), ([11], [11]), ([8, 12], [8, 12]), ([13], [13]), ([14], [14]), ([0, 15], [0, 15]), ([16, 16, 0, 1, 2, 3, 4, 5, 6, 7, 8, 9, 10, 11, 12, 13, 14, 15, 16], [0, 16])])
def spec_l20Rename.B14 : List Nat := [0, 0, 2, 0, 0, 24, 56, 126, 254, 0, 0, 1536, 3584, 8190, 16382, 32766, 65535, 131071]
theorem spec_l20Rename.tab14 : rtab .any (opsOf Tryz.f50 14) = spec_l20Rename.T14 := by kernel_rfl
theorem spec_l20Rename.bits14 : waitsOk spec_l20Rename.T14.2 spec_l20Rename.B14 = true := by kernel_rfl
def spec_l20Rename.T16 : Bool × List (List Nat × List Nat) := (true, [([], []), ([0], [0]), ([], []), ([], []), ([3], [3]), ([], []), ([], []), ([5, 6], [5, 6]), ([7], [7]), ([4, 8], [4, 8]), ([9], [9]), ([2, 10], [2, 10]), ([11], [11]), ([12], [12]), ([1, 13], [1, 13]), ([0, 1, 2, 3, 4, 5, 6, 7, 8, 9, 10, 11, 12, 13, 14], []), ([15, 14, 14, 0, 1, 2, 3, 4, 5, 6, 7, 8, 9, 10, 11, 12, 13, 14], [14, 15])])
def spec_l20Rename.B16 : List Nat := [0, 1, 0, 0, 8, 0, 0, 96, 224, 504, 1016, 2044, 4092, 8188, 16383, 32767, 65535]
theorem spec_l20Rename.tab16 : rtab .any (opsOf Tryz.f50 16) = spec_l20Rename.T16 := by kernel_rfl
theorem spec_l20Rename.bits16 : waitsOk spec_l20Rename.T16.2 spec_l20Rename.B16 = true := by kernel_rfl
set_option maxHeartbeats 8000000 in
set_option maxRecDepth 100000 in
theorem spec_l20Rename.calls (k : Nat) (A0_0 : Option Addr) (c0_0 : Nat) (l0_0 : List (List Int)) (A0_1 : Option Addr) (c0_1 : Nat) (l0_1 : List Int) (A1 : Option Addr) (c1 : Nat) (l1 : List Int) (r1 : List (List Int)) (r2 : List Int) (w : World) (hr0_0 : Kd.C (Kd.slice 3 (Kd.int .i64)) w A0_0 l0_0.length l0_0) (hc0_0 : l0_0.length ≤ c0_0) (hr0_1 : Kd.C (Kd.int .i64) w A0_1 l0_1.length l0_1) (hc0_1 : l0_1.length ≤ c0_1) (hr1 : Kd.C (Kd.int .i64) w A1 l1.length l1) (hc1 : l1.length ≤ c1) (h : spec_l20Rename.f k l0_0 l0_1 l1 = some (r1, r2)) :
  Calls Tryz.prog 50 #[.agg #[.slice A0_0 l0_0.length c0_0, .slice A0_1 l0_1.length c0_1], .slice A1 l1.length c1] w fun e w' => ∃ v0_ v1_ : Value, e = .returned (.agg #[v0_, v1_]) ∧ Kd.S (Kd.slice 3 (Kd.int .i64)) 28 w' w.heap.size (fun k_ => some k_ ≠ (v1_ : Value).ownBlock) v0_ r1 ∧ Kd.R (Kd.int .i64) 3 w' w.heap.size (fun _ => True) v1_ r2 ∧ Below w.heap.size w w' := by
 have hu30:=Tryz.underlying30;have o7:=zqm hr0_0;have u5:=zqm hc0_0;clear hr0_0 hc0_0;have o8:=zqm hr0_1;have u6:=zqm hc0_1;clear hr0_1 hc0_1;have j4:=zqm hr1;have z7:=zqm hc1;clear hr1 hc1;have HB:=zqm (Below.refl w.heap.size w);have H:(if 0≤(l1.length:Int) then(if((l1.length:Int):Int).toNat≤35184372088832 then(spec_l20Rename.l0 k l1 (List.replicate ((l1.length:Int):Int).toNat 0) 0 l0_0 l0_1) else(none)) else(none))=some (r1,r2):=h;clear h
 by_cases c3:0≤(l1.length:Int)
 ·rw [if_pos c3] at H;have y8:=eq_true c3;have y9:decide (0≤(l1.length:Int))=true:=decide_eq_true c3;clear c3
  by_cases c4:((l1.length:Int):Int).toNat≤35184372088832
  ·rw [if_pos c4] at H;have z0:=eq_true c4;have z1:decide (((l1.length:Int):Int).toNat≤35184372088832)=true:=decide_eq_true c4;clear c4;obtain⟨o1,g0⟩: ∃y_:List Int,y_=(List.replicate ((l1.length:Int):Int).toNat 0):=⟨_,rfl⟩;replace H:(spec_l20Rename.l0 k l1 o1 0 l0_0 l0_1)=some (r1,r2):=zqy g0 H;have j5:=zqm g0;clear g0;have H':=zqm H;clear H
   go_enter Tryz.func50,Tryz.ntmps50
   go_wp2_with (first|((with_reducible refine gate_dst (N:=2) rfl ?_);refine box_event ?hg (N:=2) ?hd (cs:= #[.slice A0_0 l0_0.length c0_0,.slice A0_1 l0_1.length c0_1]) (t:=30) ?hr ?_;(case hd=>rfl);(case hg=>rfl);(case hr=> exact zq16);intro a8 hg w5 hbox hb;have c7:=zqm (below_step zq5 hb);have a2:=zqm (hbox);have u2:=zqm ((by rw [hg];exact(below_size zq5):w.heap.size≤a8));have b1:=zqm ((by rw [hg];exact(below_size zq5):w.heap.size≤a8));clear HB;have HB:=c7;clear c7 hb hbox hg)|((with_reducible refine gate_dst (N:=4) rfl ?_);refine box_event ?hg (N:=4) ?hd (cs:= #[.slice none 0 0,.slice none 0 0]) (t:=30) ?hr ?_;(case hd=>rfl);(case hg=>rfl);(case hr=> exact zq16);intro a9 hg w6 hbox hb;have c7:=zqm (blk_below (g:=a8) (o:= .cells #[.slice A0_0 l0_0.length c0_0,.slice A0_1 l0_1.length c0_1] 30 (0,0)) (zqe a2.out) hb);have e0:=zqm (below_step zq24 hb);have a4:=zqm (hbox);have u3:=zqm ((by rw [hg];exact(below_size zq24):w.heap.size≤a9));have b4:=zqm ((by rw [hg];exact(below_size zq24):w.heap.size≤a9));have g6:=zqm ((by rw [hg];exact Nat.ne_of_lt (blk_lt (g:=a8) (o:= .cells #[.slice A0_0 l0_0.length c0_0,.slice A0_1 l0_1.length c0_1] 30 (0,0)) (zqe a2.out)):a8≠a9));have g7:=zqm ((by rw [hg];exact Nat.ne_of_gt (blk_lt (g:=a8) (o:= .cells #[.slice A0_0 l0_0.length c0_0,.slice A0_1 l0_1.length c0_1] 30 (0,0)) (zqe a2.out)):a9≠a8));clear a2 HB;have a2:=c7;have HB:=e0;clear c7 e0 hb hbox hg)|((with_reducible refine gate_dst (N:=13) rfl ?_);refine Kd.R_make (Kd.int .i64) _ 3 rfl (N:=13) rfl 28 _ _ rfl (l1.length:Int) rfl rfl Tryz.underlying28 (.int .i64 0) 8 info3 rfl (by decide) (by omega) 0 (ok:=fun _=>True) (okp:=fun _=>True) rfl (fun _ hk=>hk) trivial (zqo) (Nat.le_trans (Nat.mul_le_mul_right _ (zqo:(l1.length:Int).toNat≤35184372088832)) (by omega)) (Below.refl _ _) (Nat.le_refl _) ?_;intro c5 w7 h0 hb hg_ hnew_;clear hg_ hnew_;(first|rw [← j5.out] at h0|(simp only [Int.reduceToNat] at h0;rw [← j5.out] at h0));have o4:=zqm (Kd.R_lower h0 (below_size zq27));replace a2:=zqm (blk_below (g:=a8) (o:= .cells #[.slice A0_0 l0_0.length c0_0,.slice A0_1 l0_1.length c0_1] 30 (0,0)) (zqe a2.out) hb);replace a4:=zqm (blk_below (g:=a9) (o:= .cells #[.slice none 0 0,.slice none 0 0] 30 (0,0)) (zqe a4.out) hb);replace HB:=zqm (below_step zq27 hb);clear hb h0))
   go_loopg [6] k (fun kq v6 w'=> ∃(b2:List Int) (b5:Int),v6= .int .i64 b5∧Aside0 (spec_l20Rename.l0 kq l1 b2 b5 l0_0 l0_1=some (r1,r2))∧Aside0 (kq≤k)∧Aside0 (Kd.R (Kd.int .i64) 3 w' w.heap.size (fun _=>True) c5 b2)∧Aside0 (w'.heap[a8]? =some (.cells #[(.slice A0_0 l0_0.length c0_0),(.slice A0_1 l0_1.length c0_1)] 30 (0,0)))∧Aside0 (w'.heap[a9]? =some (.cells #[(.slice none 0 0),(.slice none 0 0)] 30 (0,0)))∧Aside0 (Below w.heap.size w w'))
   case atStart=>exact⟨(o1),(0),zq8,H',⟨Nat.le_refl _⟩,⟨zqfR o4.out⟩,⟨zqe a2.out⟩,⟨zqe a4.out⟩,⟨zq27⟩⟩
   case round=>
    clear H';obtain⟨b2,b5,rfl,HA,e4,HO_5,a2,a4,HB⟩:=hrel
    cases gk with
    |zero=>exact absurd HA.out (by simp [spec_l20Rename.l0])
    |succ k1=>
     have H:=HA.out;clear HA;simp only [spec_l20Rename.l0] at H
     by_cases c9:b5<(l1.length:Int)
     ·rw [if_pos c9] at H;have p8:decide (b5<(l1.length:Int))=true:=decide_eq_true c9;clear c9
      by_cases j8:0≤b5
      ·rw [if_pos j8] at H;have u8:decide (0≤b5)=true:=decide_eq_true j8;clear j8
       by_cases j9:0≤(rd l1 b5)
       ·rw [if_pos j9] at H;have v0:decide (0≤(rd l1 b5))=true:=decide_eq_true j9;clear j9
        by_cases k0:(rd l1 b5)<(b2.length:Int)
        ·rw [if_pos k0] at H;have v1:decide ((rd l1 b5)<(b2.length:Int))=true:=decide_eq_true k0;clear k0;obtain⟨j0,g1⟩: ∃y_:List Int,y_=(b2.set ((rd l1 b5):Int).toNat b5):=⟨_,rfl⟩;replace H:(spec_l20Rename.l0 k1 l1 j0 (wrap64 (b5+1)) l0_0 l0_1)=some (r1,r2):=zqy g1 H;have o9:=zqm g1;clear g1;have H':=zqm H;clear H;have h4:0≤(b5:Int):=zqo;have i2:b5<(l1.length:Int):=zqo;obtain⟨u7,q0,e2⟩:=Kd.at_int j4.out b5 h4 i2
         cases q0
         replace e2:=(HB.out.cell (World.block_lt_of_cell? w _ e2)).trans e2;replace h4:=eq_true h4;replace i2:=eq_true i2;have n8:0≤((rd l1 b5):Int):=zqo;have n9:((rd l1 b5):Int)<((b2.length:Int):Int):=zqo;obtain⟨h3,p9,m8,n4,r4,z2,m4⟩:=Kd.R_form HO_5.out (by omega);(first|cases m8|(injection m8 with ea_ en_ ec_;(first|subst ea_|(injection ea_ with ea_;subst ea_));subst ec_;clear en_));have GB13:=zqm n4;have GG13:=zqm m4;clear n4 r4 m4;obtain⟨t8,t7⟩:=Kd.R_celln 0 HO_5.out ((rd l1 b5):Int) n8 n9;replace n8:=eq_true n8;replace n9:=eq_true n9;have HP14:=Kd.R_putg HO_5.out ((rd l1 b5):Int) b5
         go_wp2_with (first|((with_reducible refine gate_store (t:=3) (p:=26) rfl ?_);refine store_event (t:=3) (p:=26) (v:=?vo_w15) (w1:=(wr.setCell ⟨h3,((rd l1 b5):Int).toNat,none⟩ (.int .i64 b5))) ?hg ?ho ?hn ?hr ?_;(case ho=>rfl);(case hg=>rfl);(case hn=>rfl);(case hr=> exact zq16);intro o0 hw;have hg:wr.grownBy o0 (some h3):=(by rw [hw];exact HP14.2);have hp_:Kd.R (Kd.int .i64) 3 o0 w.heap.size (fun _=>True) (.slice (some ⟨h3,0,none⟩) b2.length p9) j0:=(by rw [hw,o9.out];exact HP14.1);clear HP14;have c7:=zqm (hp_);replace a2:=zqm (blk_grown (g:=a8) (o:= .cells #[.slice A0_0 l0_0.length c0_0,.slice A0_1 l0_1.length c0_1] 30 (0,0)) (zqe a2.out) hg (Kd.R_ne HO_5.out a2.out (by decide)));replace a4:=zqm (blk_grown (g:=a9) (o:= .cells #[.slice none 0 0,.slice none 0 0] 30 (0,0)) (zqe a4.out) hg (Kd.R_ne HO_5.out a4.out (by decide)));replace HB:=zqm ((by rw [hw];exact below_set (HB.out) GB13.out:Below w.heap.size w o0));clear HO_5;have HO_5:=c7;clear c7 hg hw hp_))
         go_roundg k1
         (case measure=>have:=e4.out;omega);case rel=>exact⟨(j0),(wrap64 (b5+1)),zq8,H',⟨by have:=e4.out;omega⟩,⟨zqfR HO_5.out⟩,⟨zqe a2.out⟩,⟨zqe a4.out⟩,⟨zq27⟩⟩
        ·rw [if_neg k0] at H;exact absurd H (by simp)
       ·rw [if_neg j9] at H;exact absurd H (by simp)
      ·rw [if_neg j8] at H;exact absurd H (by simp)
     ·rw [if_neg c9] at H;have p8:decide (b5<(l1.length:Int))=false:=decide_eq_false c9;clear c9;have H':=zqm H;clear H
      go_wp2_with (first|((with_reducible refine gate_dst (N:=7) rfl ?_);refine box_event ?hg (N:=7) ?hd (cs:= #[.slice none 0 0,.slice none 0 0]) (t:=30) ?hr ?_;(case hd=>rfl);(case hg=>rfl);(case hr=> exact zq16);intro a5 hg p7 hbox hb;replace HO_5:=zqm (Kd.R_below (zqfR HO_5.out) hb);have e0:=zqm (blk_below (g:=a8) (o:= .cells #[.slice A0_0 l0_0.length c0_0,.slice A0_1 l0_1.length c0_1] 30 (0,0)) (zqe a2.out) hb);have e1:=zqm (blk_below (g:=a9) (o:= .cells #[.slice none 0 0,.slice none 0 0] 30 (0,0)) (zqe a4.out) hb);have f1:=zqm (below_step zq27 hb);have a1:=zqm (hbox);have u4:=zqm ((by rw [hg];exact(below_size zq27):w.heap.size≤a5));have b9:=zqm ((by rw [hg];exact(below_size zq27):w.heap.size≤a5));have b7:=zqm ((by rw [hg];exact Nat.ne_of_lt (blk_lt (g:=a8) (o:= .cells #[.slice A0_0 l0_0.length c0_0,.slice A0_1 l0_1.length c0_1] 30 (0,0)) (zqe a2.out)):a8≠a5));have c8:=zqm ((by rw [hg];exact Nat.ne_of_gt (blk_lt (g:=a8) (o:= .cells #[.slice A0_0 l0_0.length c0_0,.slice A0_1 l0_1.length c0_1] 30 (0,0)) (zqe a2.out)):a5≠a8));have b8:=zqm ((by rw [hg];exact Nat.ne_of_lt (blk_lt (g:=a9) (o:= .cells #[.slice none 0 0,.slice none 0 0] 30 (0,0)) (zqe a4.out)):a9≠a5));have d0:=zqm ((by rw [hg];exact Nat.ne_of_gt (blk_lt (g:=a9) (o:= .cells #[.slice none 0 0,.slice none 0 0] 30 (0,0)) (zqe a4.out)):a5≠a9));clear a2 a4 HB;have a2:=e0;have a4:=e1;have HB:=f1;clear e0 e1 f1 hb hbox hg;have x3:=c8.out;have y0:=b7.out;have x4:=d0.out;have y1:=b8.out;have r6:p7.cell? ⟨a5,0,none⟩=some (.slice none 0 0):=(blk_cell a1.out 0).trans rfl;have r7:p7.cell? ⟨a5,1,none⟩=some (.slice none 0 0):=(blk_cell a1.out 1).trans rfl;have s6:=blk_frozen a1.out 0;have s7:=blk_frozen a1.out 1))
      go_loopg [8] k1 (fun kq v8 w'=> ∃(a0:Int) (b0:List (List Int)) (a6:List Int) (b3:Value) (a3:Value),v8= .int .i64 a0∧Aside0 (spec_l20Rename.l1 kq l1 b2 a0 l0_0 l0_1 b0 a6=some (r1,r2))∧Aside0 (kq≤k1)∧Aside0 (Kd.R (Kd.int .i64) 3 w' w.heap.size (fun k_=>some k_≠(a3:Value).ownBlock) c5 b2)∧Aside0 (Kd.S (Kd.slice 3 (Kd.int .i64)) 28 w' w.heap.size (fun k_=>some k_≠(c5:Value).ownBlock∧some k_≠(a3:Value).ownBlock) b3 b0)∧Aside0 (Kd.R (Kd.int .i64) 3 w' w.heap.size (fun k_=>some k_≠(c5:Value).ownBlock) a3 a6)∧Aside0 (w'.heap[a8]? =some (.cells #[(.slice A0_0 l0_0.length c0_0),(.slice A0_1 l0_1.length c0_1)] 30 (0,0)))∧Aside0 (w'.heap[a9]? =some (.cells #[(.slice none 0 0),(.slice none 0 0)] 30 (0,0)))∧Aside0 (w'.heap[a5]? =some (.cells #[b3,a3] 30 (0,0)))∧Aside0 (Below w.heap.size w w'))
      case atStart=>exact⟨(0),(([]:List (List Int))),(([]:List Int)),(.slice none 0 0),(.slice none 0 0),zq8,H',⟨Nat.le_refl _⟩,⟨by refine zqfR ?_;exact Kd.R_mono (Kd.R_far (p:=⟨a5,1,none⟩) (Kd.R_far (p:=⟨a5,0,none⟩) (Kd.R_types HO_5.out a1.out (by decide)) (fun _ hk=>hk.2) (.slice none 0 0)) (fun _ hk=>hk.2) (.slice none 0 0)) (fun _ hk=>(by simp [Value.ownBlock]))⟩,⟨zq60⟩,⟨zq59⟩,⟨zq109⟩,⟨by refine zqe ?_;refine blk_far ?_ b8.out _;refine zqe ?_;refine blk_far ?_ b8.out _;refine zqe ?_;exact a4.out⟩,⟨zq83⟩,⟨zq14⟩⟩
      case round=>
       clear H';obtain⟨a0,b0,a6,b3,a3,rfl,HA,j1,HO_5,HO_296000,HO_296001,a2,a4,a1,HB⟩:=hrel
       cases gk with
       |zero=>exact absurd HA.out (by simp [spec_l20Rename.l1])
       |succ k2=>
        have H:=HA.out;clear HA;simp only [spec_l20Rename.l1] at H
        by_cases e6:a0<(l1.length:Int)
        ·rw [if_pos e6] at H;have p5:decide (a0<(l1.length:Int))=true:=decide_eq_true e6;clear e6;obtain⟨o2,g2⟩: ∃y_:List Int,y_=(([]:List Int)):=⟨_,rfl⟩;replace H:(spec_l20Rename.l2 k2 l1 b2 a0 o2 0 l0_0 l0_1 b0 a6)=some (r1,r2):=zqy g2 H;have j6:=zqm g2;clear g2;have H':=zqm H;clear H
         go_wp2_with (first|((with_reducible refine gate_dst (N:=34) rfl ?_);refine Kd.R_lit (Kd.int .i64) _ 3 ?hg (N:=34) ?hd (xs:=([]:List Int)) (inner:= []) (ok:=fun _=>True) (okp:=fun _=>True) ?hr ?hp (fun _ hk=>hk) trivial (Below.refl _ _) (Nat.le_refl _) (by simp) ?_;(case hd=>rfl);(case hg=>rfl);(case hr=> exact zq16);(case hp=>exact(Reps.none _ _));intro z3 z8 d8 hb hg_ hnew_;clear hg_ hnew_;(first|rw [← j6.out] at d8|(simp only [Int.reduceToNat] at d8;rw [← j6.out] at d8));have c7:=zqm (Kd.R_elder' (zqfR HO_5.out) (Kd.R_base d8) hb);replace HO_296000:=zqm (Kd.S_elder' (zqfS HO_296000.out) (Kd.R_base d8) hb);have e1:=zqm (Kd.R_elder' (zqfR HO_296001.out) (Kd.R_base d8) hb);have o5:=zqm (Kd.R_lower (Kd.R_new' (Kd.R_new' d8 (Kd.R_lt (zqfR HO_5.out))) (Kd.R_lt (zqfR HO_296001.out))) (below_size zq14));replace a2:=zqm (blk_below (g:=a8) (o:= .cells #[.slice A0_0 l0_0.length c0_0,.slice A0_1 l0_1.length c0_1] 30 (0,0)) (zqe a2.out) hb);replace a4:=zqm (blk_below (g:=a9) (o:= .cells #[.slice none 0 0,.slice none 0 0] 30 (0,0)) (zqe a4.out) hb);replace a1:=zqm (blk_below (g:=a5) (o:= .cells #[b3,a3] 30 (0,0)) (zqe a1.out) hb);replace HB:=zqm (below_step zq14 hb);clear HO_5 HO_296001;have HO_5:=c7;have HO_296001:=e1;clear c7 e1 hb d8))
         go_loopg [9,10] k2 (fun kq v9 t9 w'=> ∃(d1:List Int) (a7:Int),t9= .int .i64 a7∧Aside0 (spec_l20Rename.l2 kq l1 b2 a0 d1 a7 l0_0 l0_1 b0 a6=some (r1,r2))∧Aside0 (kq≤k2)∧Aside0 (Kd.R (Kd.int .i64) 3 w' w.heap.size (fun k_=>some k_≠(v9:Value).ownBlock∧some k_≠(a3:Value).ownBlock) c5 b2)∧Aside0 (Kd.R (Kd.int .i64) 3 w' w.heap.size (fun k_=>some k_≠(c5:Value).ownBlock∧some k_≠(a3:Value).ownBlock) v9 d1)∧Aside0 (Kd.S (Kd.slice 3 (Kd.int .i64)) 28 w' w.heap.size (fun k_=>some k_≠(c5:Value).ownBlock∧some k_≠(v9:Value).ownBlock∧some k_≠(a3:Value).ownBlock) b3 b0)∧Aside0 (Kd.R (Kd.int .i64) 3 w' w.heap.size (fun k_=>some k_≠(c5:Value).ownBlock∧some k_≠(v9:Value).ownBlock) a3 a6)∧Aside0 (w'.heap[a8]? =some (.cells #[(.slice A0_0 l0_0.length c0_0),(.slice A0_1 l0_1.length c0_1)] 30 (0,0)))∧Aside0 (w'.heap[a9]? =some (.cells #[(.slice none 0 0),(.slice none 0 0)] 30 (0,0)))∧Aside0 (w'.heap[a5]? =some (.cells #[b3,a3] 30 (0,0)))∧Aside0 (Below w.heap.size w w'))
         case atStart=>exact⟨(o2),(0),zq8,H',⟨Nat.le_refl _⟩,⟨zq115⟩,⟨by refine zqfR ?_;exact Kd.R_mono o5.out (fun _ hk=>⟨hk.1.2,hk.2⟩)⟩,⟨zq131⟩,⟨zqfR HO_296001.out⟩,⟨zqe a2.out⟩,⟨zqe a4.out⟩,⟨zqe a1.out⟩,⟨zq14⟩⟩
         case round=>
          clear H';obtain⟨d1,a7,rfl,HA,j2,HO_5,HO_9,HO_296000,HO_296001,a2,a4,a1,HB⟩:=hrel
          cases gk with
          |zero=>exact absurd HA.out (by simp [spec_l20Rename.l2])
          |succ k3=>
           have H:=HA.out;clear HA;simp only [spec_l20Rename.l2] at H
           by_cases e7:a7<(l1.length:Int)
           ·rw [if_pos e7] at H;have p6:decide (a7<(l1.length:Int))=true:=decide_eq_true e7;clear e7
            by_cases k4:0≤a0
            ·rw [if_pos k4] at H;have v2:decide (0≤a0)=true:=decide_eq_true k4;clear k4
             by_cases k5:a0<(l1.length:Int)
             ·rw [if_pos k5] at H;have v3:decide (a0<(l1.length:Int))=true:=decide_eq_true k5;clear k5
              by_cases k6:0≤(rd l1 a0)
              ·rw [if_pos k6] at H;have v4:decide (0≤(rd l1 a0))=true:=decide_eq_true k6;clear k6
               by_cases k7:(rd l1 a0)<(l0_0.length:Int)
               ·rw [if_pos k7] at H;have v5:decide ((rd l1 a0)<(l0_0.length:Int))=true:=decide_eq_true k7;clear k7
                by_cases k8:0≤a7
                ·rw [if_pos k8] at H;have v7:decide (0≤a7)=true:=decide_eq_true k8;clear k8
                 by_cases k9:0≤(rd l1 a7)
                 ·rw [if_pos k9] at H;have w2:decide (0≤(rd l1 a7))=true:=decide_eq_true k9;clear k9
                  by_cases l3:(rd l1 a7)<((rd_L3 l0_0 (rd l1 a0)).length:Int)
                  ·rw [if_pos l3] at H;have w3:decide ((rd l1 a7)<((rd_L3 l0_0 (rd l1 a0)).length:Int))=true:=decide_eq_true l3;clear l3
                   by_cases l4:d1.length<17592186044416
                   ·rw [if_pos l4] at H;have LMc31:=zqm l4;clear l4;obtain⟨o3,g3⟩: ∃y_:List Int,y_=(d1 ++ [rd (rd_L3 l0_0 (rd l1 a0)) (rd l1 a7)]):=⟨_,rfl⟩;replace H:(spec_l20Rename.l2 k3 l1 b2 a0 o3 (wrap64 (a7+1)) l0_0 l0_1 b0 a6)=some (r1,r2):=zqy g3 H;have p0:=zqm g3;clear g3;have H':=zqm H;clear H;(try go_wp2);replace HO_5:=zqm (Kd.R_drew HO_5.out);replace HO_9:=zqm (Kd.R_drew HO_9.out);replace HO_296000:=zqm (Kd.S_drew HO_296000.out);replace HO_296001:=zqm (Kd.R_drew HO_296001.out);replace a2:=zqm (blk_drew a2.out);replace a4:=zqm (blk_drew a4.out);replace a1:=zqm (blk_drew a1.out);replace HB:=zqm (below_drew1 HB.out);have h5:0≤(a0:Int):=zqo;have i3:a0<(l1.length:Int):=zqo;obtain⟨f4,q1,d2⟩:=Kd.at_int j4.out a0 h5 i3;have hw299_0:=d2
                    cases q1
                    replace d2:=(HB.out.cell (World.block_lt_of_cell? w _ d2)).trans d2;replace h5:=eq_true h5;replace i3:=eq_true i3;have h6:0≤((rd l1 a0):Int):=zqo;have i4:(rd l1 a0)<(l0_0.length:Int):=zqo;obtain⟨f5,t6,m5,q2,d3,e9,e8⟩:=at_L3 o7.out (rd l1 a0) h6 i4;have hw300_0:=d3
                    cases q2
                    replace d3:=(HB.out.cell (World.block_lt_of_cell? w _ d3)).trans d3;have e5:=zqm e8;have r5:=zqm e9;clear e8 e9;replace h6:=eq_true h6;replace i4:=eq_true i4;have h7:0≤(a7:Int):=zqo;have i5:a7<(l1.length:Int):=zqo;obtain⟨p3,q3,d4⟩:=Kd.at_int j4.out a7 h7 i5;have hw301_0:=d4;obtain rfl:f4=p3:=(by injection q3);replace d4:=(HB.out.cell (World.block_lt_of_cell? w _ d4)).trans d4;replace h7:=eq_true h7;replace i5:=eq_true i5;have h8:0≤((rd l1 a7):Int):=zqo;have i6:(rd l1 a7)<((rd_L3 l0_0 (rd l1 a0)).length:Int):=zqo;obtain⟨j7,q4,d5⟩:=Kd.at_int e5.out (rd l1 a7) h8 i6;have hw302_0:=d5
                    cases q4
                    replace d5:=(HB.out.cell (World.block_lt_of_cell? w _ d5)).trans d5;replace h8:=eq_true h8;replace i6:=eq_true i6;refine start_ (n:=18) (S:=fun w'=>w'.cell? ⟨a8,0,none⟩=some (.slice (some f5) l0_0.length c0_0)∧w'.cell? ⟨a8,1,none⟩=some (.slice A0_1 l0_1.length c0_1)∧w'.cell? (f4.add (a0).toNat)=some (.int .i64 (rd l1 a0))∧w'.cell? (f5.add ((rd l1 a0)).toNat)=some (.slice (some j7) (rd_L3 l0_0 (rd l1 a0)).length m5)∧w'.cell? (f4.add (a7).toNat)=some (.int .i64 (rd l1 a7))∧w'.cell? (j7.add ((rd l1 a7)).toNat)=some (.int .i64 (rd (rd_L3 l0_0 (rd l1 a0)) (rd l1 a7)))) (ds:= []) (zqb 18 0) zqk rfl rfl ⟨(blk_cell a2.out 0).trans rfl,(blk_cell a2.out 1).trans rfl,((HB.out.cell (World.block_lt_of_cell? w _ hw299_0)).trans hw299_0),((HB.out.cell (World.block_lt_of_cell? w _ hw300_0)).trans hw300_0),((HB.out.cell (World.block_lt_of_cell? w _ hw301_0)).trans hw301_0),((HB.out.cell (World.block_lt_of_cell? w _ hw302_0)).trans hw302_0)⟩ (fun hHeld=>?_);refine with_tabW spec_l20Rename.tab14 spec_l20Rename.bits14 (fun HT_ HW_=>?_);generalize wr.drew=z9 at HO_5 HO_9 HO_296000 HO_296001 a2 a4 a1 HB e5 d2 d3 d4 d5 hHeld ⊢;refine zqp 0 41 (zqb 18 1) HT_ ?_;refine zqp 1 42 (zqb 18 3) HT_ ?_;refine zqp 3 44 (zqb 18 11) HT_ ?_;refine zqp 4 45 (zqb 18 27) HT_ ?_;refine zqp 5 46 (zqb 18 59) HT_ ?_;refine zqp 9 50 (zqb 18 571) HT_ ?_;refine zqp 10 51 (zqb 18 1595) HT_ ?_;refine zqp 11 52 (zqb 18 3643) HT_ ?_;refine zqw 2 43 (zqb 18 3647) HT_ HW_ hHeld ?_;refine zqw 6 47 (zqb 18 3711) HT_ HW_ hHeld ?_;refine zqp 7 48 (zqb 18 3839) HT_ ?_;refine zqw 8 49 (zqb 18 4095) HT_ HW_ hHeld ?_;refine zqw 12 53 (zqb 18 8191) HT_ HW_ hHeld ?_;refine zqp 13 54 (zqb 18 16383) HT_ ?_;refine zqw 14 55 (zqb 18 32767) HT_ HW_ hHeld ?_;refine one_ (i:=15) (N:=some 56) (zqb 18 65535) rfl rfl (one_of HT_.out zqk) (by decide) (fun K hK=>?_);refine value_ (w1:=?_) (v:=?_) (by rfl) rfl ?_ ?_;rotate_left 2
                    ·go_simp
                     constructor
                     ·rfl
                     ·rfl
                    refine hK.out _ _ ⟨(blk_cell (blk_alloc a2.out _) 0).trans rfl,(blk_cell (blk_alloc a2.out _) 1).trans rfl,(World.cell?_alloc_lt _ _ _ (World.block_lt_of_cell? _ _ (((HB.out.cell (World.block_lt_of_cell? w _ hw299_0)).trans hw299_0)))).trans (((HB.out.cell (World.block_lt_of_cell? w _ hw299_0)).trans hw299_0)),(World.cell?_alloc_lt _ _ _ (World.block_lt_of_cell? _ _ (((HB.out.cell (World.block_lt_of_cell? w _ hw300_0)).trans hw300_0)))).trans (((HB.out.cell (World.block_lt_of_cell? w _ hw300_0)).trans hw300_0)),(World.cell?_alloc_lt _ _ _ (World.block_lt_of_cell? _ _ (((HB.out.cell (World.block_lt_of_cell? w _ hw301_0)).trans hw301_0)))).trans (((HB.out.cell (World.block_lt_of_cell? w _ hw301_0)).trans hw301_0)),(World.cell?_alloc_lt _ _ _ (World.block_lt_of_cell? _ _ (((HB.out.cell (World.block_lt_of_cell? w _ hw302_0)).trans hw302_0)))).trans (((HB.out.cell (World.block_lt_of_cell? w _ hw302_0)).trans hw302_0))⟩ (fun hHeld=>?_);clear hK K;refine norm_ (a':=?_) ?_ ?_;rotate_left
                    ·show Act.put _ (some 56) _=_;exact zqs
                    refine one_ (i:=16) (N:=some 57) (zqb 18 131071) rfl rfl (one_of HT_.out zqk) (by decide) (fun K hK=>?_);refine Kd.R_append_step (Kd.int .i64) (w0:=w) w.heap.size (by rfl) (.tmp 41) (.tmp 56) 28 3 (.int .i64 0) 8 rfl Tryz.underlying28 info3 rfl (by decide) (by omega) u9 d1 (rd (rd_L3 l0_0 (rd l1 a0)) (rd l1 a7)) [.int .i64 (rd (rd_L3 l0_0 (rd l1 a0)) (rd l1 a7))] (fun k_=>some k_≠(c5:Value).ownBlock∧some k_≠(a3:Value).ownBlock) (fun _=>False) rfl rfl ?aP (fun _ hk=>hk.elim) ?aF ?aO ?aB ?aS ?aL ?_;(case aP=>exact rfl);(case aB=> exact zq47);(case aF=> exact zq108);(case aO=>exact(zqfR HO_9.out));(case aS=> exact zq42);(case aL=>have:=LMc31.out;omega);intro z4 w33 ho hb hg hat;rw [← p0.out] at ho;replace HO_5:=zqm (Kd.R_after (ok:=(fun k_=>some k_≠(a3:Value).ownBlock)) zq115 hg hat);replace HO_296000:=zqm (Kd.S_after (ok:=(fun k_=>some k_≠(c5:Value).ownBlock∧some k_≠(a3:Value).ownBlock)) (by refine zqfS ?_;exact Kd.S_mono HO_296000.out (fun _ hk=>⟨⟨hk.1,hk.2.2⟩,hk.2.1⟩)) hg hat);replace HO_296001:=zqm (Kd.R_after (ok:=(fun k_=>some k_≠(c5:Value).ownBlock)) (zqfR HO_296001.out) hg hat);replace a2:=zqm (blk_grown (g:=a8) (o:= .cells #[.slice (some f5) l0_0.length c0_0,.slice A0_1 l0_1.length c0_1] 30 (0,0)) (zqe a2.out) hg (Kd.R_ne HO_9.out a2.out (by decide)));replace a4:=zqm (blk_grown (g:=a9) (o:= .cells #[.slice none 0 0,.slice none 0 0] 30 (0,0)) (zqe a4.out) hg (Kd.R_ne HO_9.out a4.out (by decide)));replace a1:=zqm (blk_grown (g:=a5) (o:= .cells #[b3,a3] 30 (0,0)) (zqe a1.out) hg (Kd.R_ne HO_9.out a1.out (by decide)));replace HB:=zqm (hb);have o6:=zqm (ho);clear HO_9;clear ho hb hg hat;refine hK.out _ _ ⟨(blk_cell a2.out 0).trans rfl,(blk_cell a2.out 1).trans rfl,((HB.out.cell (World.block_lt_of_cell? w _ hw299_0)).trans hw299_0),((HB.out.cell (World.block_lt_of_cell? w _ hw300_0)).trans hw300_0),((HB.out.cell (World.block_lt_of_cell? w _ hw301_0)).trans hw301_0),((HB.out.cell (World.block_lt_of_cell? w _ hw302_0)).trans hw302_0)⟩ (fun hHeld=>?_);clear hK K;refine norm_ (a':=?_) ?_ ?_;rotate_left
                    ·show Act.put _ (some 57) _=_;exact zqs
                    refine zqp 17 9 (zqb 18 262143) HT_ ?_;refine done_ (done_of HT_.out zqk) ?_;try go_wp2
                    go_roundg k3
                    (case measure=> exact zq125);case rel=>exact⟨(o3),(wrap64 (a7+1)),zq8,H',⟨zq125⟩,⟨zq115⟩,⟨zqfR o6.out⟩,⟨zq131⟩,⟨zqfR HO_296001.out⟩,⟨zqe a2.out⟩,⟨zqe a4.out⟩,⟨zqe a1.out⟩,⟨zq14⟩⟩
                   ·rw [if_neg l4] at H;exact absurd H (by simp)
                  ·rw [if_neg l3] at H;exact absurd H (by simp)
                 ·rw [if_neg k9] at H;exact absurd H (by simp)
                ·rw [if_neg k8] at H;exact absurd H (by simp)
               ·rw [if_neg k7] at H;exact absurd H (by simp)
              ·rw [if_neg k6] at H;exact absurd H (by simp)
             ·rw [if_neg k5] at H;exact absurd H (by simp)
            ·rw [if_neg k4] at H;exact absurd H (by simp)
           ·rw [if_neg e7] at H;have p6:decide (a7<(l1.length:Int))=false:=decide_eq_false e7;clear e7
            by_cases l5:b0.length<5864062014805
            ·rw [if_pos l5] at H;have LMc34:=zqm l5;clear l5;obtain⟨b6,g4⟩: ∃y_:List (List Int),y_=(b0 ++ [d1]):=⟨_,rfl⟩;replace H:(if 0≤a0 then(if a0<(l1.length:Int) then(if 0≤(rd l1 a0) then(if(rd l1 a0)<(l0_1.length:Int) then(if 0≤(rd l0_1 (rd l1 a0)) then(if(rd l0_1 (rd l1 a0))<(b2.length:Int) then(if a6.length<17592186044416 then(spec_l20Rename.l1 k3 l1 b2 (wrap64 (a0+1)) l0_0 l0_1 b6 (a6 ++ [rd b2 (rd l0_1 (rd l1 a0))])) else(none)) else(none)) else(none)) else(none)) else(none)) else(none)) else(none))=some (r1,r2):=zqy g4 H;have p1:=zqm g4;clear g4
             by_cases l6:0≤a0
             ·rw [if_pos l6] at H;have w4:decide (0≤a0)=true:=decide_eq_true l6;clear l6
              by_cases l7:a0<(l1.length:Int)
              ·rw [if_pos l7] at H;have w8:decide (a0<(l1.length:Int))=true:=decide_eq_true l7;clear l7
               by_cases l8:0≤(rd l1 a0)
               ·rw [if_pos l8] at H;have w9:decide (0≤(rd l1 a0))=true:=decide_eq_true l8;clear l8
                by_cases l9:(rd l1 a0)<(l0_1.length:Int)
                ·rw [if_pos l9] at H;have x0:decide ((rd l1 a0)<(l0_1.length:Int))=true:=decide_eq_true l9;clear l9
                 by_cases m0:0≤(rd l0_1 (rd l1 a0))
                 ·rw [if_pos m0] at H;have x1:decide (0≤(rd l0_1 (rd l1 a0)))=true:=decide_eq_true m0;clear m0
                  by_cases m1:(rd l0_1 (rd l1 a0))<(b2.length:Int)
                  ·rw [if_pos m1] at H;have x2:decide ((rd l0_1 (rd l1 a0))<(b2.length:Int))=true:=decide_eq_true m1;clear m1
                   by_cases m2:a6.length<17592186044416
                   ·rw [if_pos m2] at H;have LMc41:=zqm m2;clear m2;obtain⟨e3,g5⟩: ∃y_:List Int,y_=(a6 ++ [rd b2 (rd l0_1 (rd l1 a0))]):=⟨_,rfl⟩;replace H:(spec_l20Rename.l1 k3 l1 b2 (wrap64 (a0+1)) l0_0 l0_1 b6 e3)=some (r1,r2):=zqy g5 H;have p2:=zqm g5;clear g5;have H':=zqm H;clear H;have x5:=c8.out;have y2:=b7.out;have x6:=d0.out;have y3:=b8.out;have r8:wr.cell? ⟨a5,0,none⟩=some (b3):=(blk_cell a1.out 0).trans rfl;have r9:wr.cell? ⟨a5,1,none⟩=some (a3):=(blk_cell a1.out 1).trans rfl;have s8:=blk_frozen a1.out 0;have s9:=blk_frozen a1.out 1;obtain⟨m3,m6,q8⟩:=Kd.R_slice HO_9.out;subst q8;(try go_wp2_with (first|((with_reducible refine gate_builtin (b:= .append) (xs:= #[.tmp 59,.tmp 61]) rfl ?_);at_builtin;refine Kd.S_append (Kd.slice 3 (Kd.int .i64)) (w0:=w) w.heap.size rfl (.tmp 59) (.tmp 61) 27 28 (.slice none 0 0) 24 rfl Tryz.underlying27 info28 rfl (by decide) (by omega) b3 b0 d1 [.slice m3 d1.length m6] (fun k_=>some k_≠(c5:Value).ownBlock∧some k_≠(a3:Value).ownBlock) (fun k_=>some k_=(.slice m3 d1.length m6:Value).ownBlock) rfl rfl ?aP (fun k_ hk_=>((Kd.R_mono (ok':=fun k_=>((fun k_=>some k_≠(c5:Value).ownBlock∧some k_≠(a3:Value).ownBlock)) k_∧some k_≠(b3:Value).ownBlock) (Kd.R_apart' (HO_9.out) (Kd.S_typed HO_296000.out) (by decide)) (fun k_ hk=>⟨⟨hk.1.1,hk.1.2⟩,hk.2⟩))).1 k_ hk_.symm) ?aF ?aO ?aB ?aS ?aL ?_;(case aP=>exact Kd.M_row (Kd.R_mono (Kd.R_tight rfl (Kd.R_mono (ok':=fun k_=>((fun k_=>some k_≠(c5:Value).ownBlock∧some k_≠(a3:Value).ownBlock)) k_∧some k_≠(b3:Value).ownBlock) (Kd.R_apart' (HO_9.out) (Kd.S_typed HO_296000.out) (by decide)) (fun k_ hk=>⟨⟨hk.1.1,hk.1.2⟩,hk.2⟩))) (fun _ h_=>h_)));(case aB=> exact zq47);(case aF=> exact zq108);(case aO=>exact(by refine zqfS ?_;exact Kd.S_mono HO_296000.out (fun k_ hk=>⟨⟨hk.1,hk.2.2⟩,fun e_=>hk.2.1 e_⟩)));(case aS=> exact zq42);(case aL=>have:=LMc34.out;omega);intro z5 d9 ho hb hg hat;rw [← p1.out] at ho;replace HO_5:=zqm (Kd.R_over' (zqfR HO_5.out) (Kd.S_typed (zqfS HO_296000.out)) (by decide) hg);replace HO_296001:=zqm (Kd.R_over' (zqfR HO_296001.out) (Kd.S_typed (zqfS HO_296000.out)) (by decide) hg);replace a2:=zqm (blk_grown (g:=a8) (o:= .cells #[.slice A0_0 l0_0.length c0_0,.slice A0_1 l0_1.length c0_1] 30 (0,0)) (zqe a2.out) hg (Kd.S_ne HO_296000.out a2.out (by decide)));replace a4:=zqm (blk_grown (g:=a9) (o:= .cells #[.slice none 0 0,.slice none 0 0] 30 (0,0)) (zqe a4.out) hg (Kd.S_ne HO_296000.out a4.out (by decide)));replace a1:=zqm (blk_grown (g:=a5) (o:= .cells #[b3,a3] 30 (0,0)) (zqe a1.out) hg (Kd.S_ne HO_296000.out a1.out (by decide)));replace HB:=zqm (hb);have c6:=zqm (ho);clear HO_296000 HO_9;clear ho hb hg hat;obtain⟨c0,c2,q9⟩:=Kd.S_slice c6.out;subst q9;have s0:d9.cell? ⟨a5,0,none⟩=some (b3):=(blk_cell a1.out 0).trans rfl;have s1:d9.cell? ⟨a5,1,none⟩=some (a3):=(blk_cell a1.out 1).trans rfl;have t0:=blk_frozen a1.out 0;have t1:=blk_frozen a1.out 1)));have c7:Aside0 (Kd.R (Kd.int .i64) 3 (d9.setCell ⟨a5,0,none⟩ (.slice c0 b6.length c2)) w.heap.size (fun k_=>some k_≠(a3:Value).ownBlock) c5 b2):=⟨by refine zqfR ?_;exact Kd.R_mono (Kd.R_far (p:=⟨a5,0,none⟩) (Kd.R_types HO_5.out a1.out (by decide)) (fun _ hk=>hk.2) (.slice c0 b6.length c2)) (fun _ hk=>hk.1.2)⟩;have e0:Aside0 (Kd.R (Kd.int .i64) 3 (d9.setCell ⟨a5,0,none⟩ (.slice c0 b6.length c2)) w.heap.size (fun k_=>some k_≠(c5:Value).ownBlock) a3 a6):=⟨by refine zqfR ?_;exact Kd.R_mono (Kd.R_far (p:=⟨a5,0,none⟩) (Kd.R_types HO_296001.out a1.out (by decide)) (fun _ hk=>hk.2) (.slice c0 b6.length c2)) (fun _ hk=>hk.1.1)⟩;have e1:Aside0 (Kd.S (Kd.slice 3 (Kd.int .i64)) 28 (d9.setCell ⟨a5,0,none⟩ (.slice c0 b6.length c2)) w.heap.size (fun k_=>some k_≠(c5:Value).ownBlock∧some k_≠(a3:Value).ownBlock) (.slice c0 b6.length c2) b6):=⟨by refine zqfS ?_;exact Kd.S_mono (Kd.S_far (p:=⟨a5,0,none⟩) (Kd.S_types c6.out a1.out (by decide)) (fun _ hk=>hk.2) (.slice c0 b6.length c2)) (fun _ hk=>⟨hk.1.1,hk.1.2⟩)⟩;have f1:Aside0 ((d9.setCell ⟨a5,0,none⟩ (.slice c0 b6.length c2)).heap[a8]? =some (.cells #[.slice A0_0 l0_0.length c0_0,.slice A0_1 l0_1.length c0_1] 30 (0,0))):=⟨zq148⟩;have n5:Aside0 ((d9.setCell ⟨a5,0,none⟩ (.slice c0 b6.length c2)).heap[a9]? =some (.cells #[.slice none 0 0,.slice none 0 0] 30 (0,0))):=⟨zq149⟩;have n6:Aside0 ((d9.setCell ⟨a5,0,none⟩ (.slice c0 b6.length c2)).heap[a5]? =some (.cells #[.slice c0 b6.length c2,a3] 30 (0,0))):=⟨by refine zqe ?_;refine blk_put (cs:= #[b3,a3]) ?_ 0 _ rfl;refine zqe ?_;exact a1.out⟩;have n7:Aside0 (Below w.heap.size w (d9.setCell ⟨a5,0,none⟩ (.slice c0 b6.length c2))):=⟨zq14⟩
                    generalize (d9.setCell ⟨a5,0,none⟩ (.slice c0 b6.length c2))=u0 at c7 e0 e1 f1 n5 n6 n7 ⊢;have HO_5:=c7;have HO_296001:=e0;have c6:=e1;have a2:=f1;have a4:=n5;have a1:=n6;have HB:=n7;clear c7 e0 e1 f1 n5 n6 n7;replace HO_5:=zqm (Kd.R_drew HO_5.out);replace HO_296001:=zqm (Kd.R_drew HO_296001.out);replace c6:=zqm (Kd.S_drew c6.out);replace a2:=zqm (blk_drew a2.out);replace a4:=zqm (blk_drew a4.out);replace a1:=zqm (blk_drew a1.out);replace HB:=zqm (below_drew1 HB.out);have h9:0≤(a0:Int):=zqo;have i7:a0<(l1.length:Int):=zqo;obtain⟨p4,q5,d6⟩:=Kd.at_int j4.out a0 h9 i7;have hw309_0:=d6
                    cases q5
                    replace d6:=(HB.out.cell (World.block_lt_of_cell? w _ d6)).trans d6;replace h9:=eq_true h9;replace i7:=eq_true i7;have i0:0≤((rd l1 a0):Int):=zqo;have i8:(rd l1 a0)<(l0_1.length:Int):=zqo;obtain⟨f6,q6,d7⟩:=Kd.at_int o8.out (rd l1 a0) i0 i8;have hw310_0:=d7
                    cases q6
                    replace d7:=(HB.out.cell (World.block_lt_of_cell? w _ d7)).trans d7;replace i0:=eq_true i0;replace i8:=eq_true i8;obtain⟨y7,m7,m9⟩:=Kd.R_slice HO_5.out;(first|subst m9|(injection m9 with g8 n1 g9;have n2:=g8.symm;have n3:=g9.symm;clear g8 n1 g9;subst n2;subst n3));have i1:0≤((rd l0_1 (rd l1 a0)):Int):=zqo;have i9:(rd l0_1 (rd l1 a0))<(b2.length:Int):=zqo;obtain⟨f7,q7,f0⟩:=Kd.at_int (Kd.R_reads' HO_5.out).2.2 (rd l0_1 (rd l1 a0)) i1 i9
                    cases q7
                    replace i1:=eq_true i1;replace i9:=eq_true i9;refine start_ (n:=17) (S:=fun w'=>w'.cell? ⟨a5,0,none⟩=some (.slice c0 b6.length c2)∧w'.cell? ⟨a5,1,none⟩=some (a3)∧w'.cell? ⟨a8,0,none⟩=some (.slice A0_0 l0_0.length c0_0)∧w'.cell? ⟨a8,1,none⟩=some (.slice (some f6) l0_1.length c0_1)∧w'.cell? (p4.add (a0).toNat)=some (.int .i64 (rd l1 a0))∧w'.cell? (f6.add ((rd l1 a0)).toNat)=some (.int .i64 (rd l0_1 (rd l1 a0)))∧w'.cell? (f7.add ((rd l0_1 (rd l1 a0))).toNat)=some (.int .i64 (rd b2 (rd l0_1 (rd l1 a0))))) (ds:= [14,16]) (zqb 17 0) zqk rfl rfl ⟨(blk_cell a1.out 0).trans rfl,(blk_cell a1.out 1).trans rfl,(blk_cell a2.out 0).trans rfl,(blk_cell a2.out 1).trans rfl,((HB.out.cell (World.block_lt_of_cell? w _ hw309_0)).trans hw309_0),((HB.out.cell (World.block_lt_of_cell? w _ hw310_0)).trans hw310_0),f0⟩ (fun hHeld=>?_);refine with_tabW spec_l20Rename.tab16 spec_l20Rename.bits16 (fun HT_ HW_=>?_);generalize u0.drew=w50 at HO_5 HO_296001 c6 a2 a4 a1 HB d6 d7 f0 hHeld ⊢;refine zqp 0 64 (zqb 17 1) HT_ ?_;refine zqp 2 66 (zqb 17 5) HT_ ?_;refine zqp 3 67 (zqb 17 13) HT_ ?_;refine zqp 5 69 (zqb 17 45) HT_ ?_;refine zqp 6 70 (zqb 17 109) HT_ ?_;refine zqp 7 71 (zqb 17 237) HT_ ?_;refine zqw 1 65 (zqb 17 239) HT_ HW_ hHeld ?_;refine zqw 4 68 (zqb 17 255) HT_ HW_ hHeld ?_;refine zqw 8 72 (zqb 17 511) HT_ HW_ hHeld ?_;refine zqp 9 73 (zqb 17 1023) HT_ ?_;refine zqw 10 74 (zqb 17 2047) HT_ HW_ hHeld ?_;refine zqp 11 75 (zqb 17 4095) HT_ ?_;refine zqw 12 76 (zqb 17 8191) HT_ HW_ hHeld ?_;refine one_ (i:=13) (N:=some 77) (zqb 17 16383) rfl rfl (one_of HT_.out zqk) (by decide) (fun K hK=>?_);refine value_ (w1:=?_) (v:=?_) (by rfl) rfl ?_ ?_;rotate_left 2
                    ·go_simp
                     constructor
                     ·rfl
                     ·rfl
                    refine hK.out _ _ ⟨(blk_cell (blk_alloc a1.out _) 0).trans rfl,(blk_cell (blk_alloc a1.out _) 1).trans rfl,(blk_cell (blk_alloc a2.out _) 0).trans rfl,(blk_cell (blk_alloc a2.out _) 1).trans rfl,(World.cell?_alloc_lt _ _ _ (World.block_lt_of_cell? _ _ (((HB.out.cell (World.block_lt_of_cell? w _ hw309_0)).trans hw309_0)))).trans (((HB.out.cell (World.block_lt_of_cell? w _ hw309_0)).trans hw309_0)),(World.cell?_alloc_lt _ _ _ (World.block_lt_of_cell? _ _ (((HB.out.cell (World.block_lt_of_cell? w _ hw310_0)).trans hw310_0)))).trans (((HB.out.cell (World.block_lt_of_cell? w _ hw310_0)).trans hw310_0)),(World.cell?_alloc_lt _ _ _ (World.block_lt_of_cell? _ _ (hHeld.2.2.2.2.2.2))).trans (hHeld.2.2.2.2.2.2)⟩ (fun hHeld=>?_);clear hK K;refine norm_ (a':=?_) ?_ ?_;rotate_left
                    ·show Act.put _ (some 77) _=_;exact zqs
                    refine last_ (i:=14) (N:=some 78) (zqb 17 32767) rfl rfl (one_of HT_.out zqk) (by decide) (fun K hK=>?_);refine Kd.R_append_step (Kd.int .i64) (w0:=w) w.heap.size (by rfl) (.tmp 65) (.tmp 77) 28 3 (.int .i64 0) 8 rfl Tryz.underlying28 info3 rfl (by decide) (by omega) a3 a6 (rd b2 (rd l0_1 (rd l1 a0))) [.int .i64 (rd b2 (rd l0_1 (rd l1 a0)))] (fun k_=>some k_≠(.slice (some f7) b2.length m7:Value).ownBlock) (fun _=>False) rfl rfl ?aP (fun _ hk=>hk.elim) ?aF ?aO ?aB ?aS ?aL ?_;(case aP=>exact rfl);(case aB=> exact zq47);(case aF=>exact(fun k_ hk=>Kd.fresh' (Kd.R_lt (zqfR HO_5.out)) k_ hk));(case aO=>exact(zqfR HO_296001.out));(case aS=> exact zq42);(case aL=>have:=LMc41.out;omega);intro z6 u1 ho hb hg hat;rw [← p2.out] at ho;replace HO_5:=zqm (Kd.R_after (ok:=(fun _=>True)) (by refine zqfR ?_;exact Kd.R_mono HO_5.out (fun _ hk=>⟨trivial,hk⟩)) hg hat);replace a2:=zqm (blk_grown (g:=a8) (o:= .cells #[.slice A0_0 l0_0.length c0_0,.slice (some f6) l0_1.length c0_1] 30 (0,0)) (zqe a2.out) hg (Kd.R_ne HO_296001.out a2.out (by decide)));replace a4:=zqm (blk_grown (g:=a9) (o:= .cells #[.slice none 0 0,.slice none 0 0] 30 (0,0)) (zqe a4.out) hg (Kd.R_ne HO_296001.out a4.out (by decide)));replace a1:=zqm (blk_grown (g:=a5) (o:= .cells #[.slice c0 b6.length c2,a3] 30 (0,0)) (zqe a1.out) hg (Kd.R_ne HO_296001.out a1.out (by decide)));replace c6:=zqm (Kd.S_after (ok:=(fun k_=>some k_≠(.slice (some f7) b2.length m7:Value).ownBlock)) (zqfS c6.out) hg hat);replace HB:=zqm (hb);have j3:=zqm (ho);clear HO_296001;clear ho hb hg hat;obtain⟨f2,f8,n0⟩:=Kd.R_slice j3.out;(first|subst n0|(injection n0 with g8 n1 g9;have n2:=g8.symm;have n3:=g9.symm;clear g8 n1 g9;subst n2;subst n3));refine hK.out _ _ ?_;clear hK K;refine norm_ (a':=?_) ?_ ?_;rotate_left
                    ·show Act.put _ (some 78) _=_;exact zqs
                    refine zqp 15 79 (zqb 17 65535) HT_ ?_;refine last_ (i:=16) (N:=none) (zqb 17 131071) rfl rfl (one_of HT_.out zqk) (by decide) (fun K hK=>?_);have hs54:u1.cell? ⟨a5,1,none⟩=some (a3):=(blk_cell a1.out 1).trans rfl;have hfs54:=blk_frozen a1.out 1;have hns54_0:=b7.out;have hns54_1:=b8.out;have hms54_0:=c8.out;have hms54_1:=d0.out;refine skip_ (w1:=?_) (by rfl) rfl ?_ ?_;rotate_left
                    ·go_simp;rfl
                    refine hK.out _ _ ?_;clear hK K;refine done_ (done_of HT_.out zqk) ?_;try go_wp2
                    go_roundg k3
                    (case measure=> exact zq125);case rel=>exact⟨(wrap64 (a0+1)),(b6),(e3),(.slice c0 b6.length c2),(.slice f2 e3.length f8),zq8,H',⟨zq125⟩,⟨by refine zqfR ?_;exact Kd.R_mono (Kd.R_far (p:=⟨a5,1,none⟩) (Kd.R_types HO_5.out a1.out (by decide)) (fun _ hk=>hk.2) (.slice f2 e3.length f8)) (fun _ hk=>hk.1.2)⟩,⟨by refine zqfS ?_;exact Kd.S_mono (Kd.S_far (p:=⟨a5,1,none⟩) (Kd.S_types c6.out a1.out (by decide)) (fun _ hk=>hk.2) (.slice f2 e3.length f8)) (fun _ hk=>⟨hk.1.1,hk.1.2⟩)⟩,⟨by refine zqfR ?_;exact Kd.R_mono (Kd.R_far (p:=⟨a5,1,none⟩) (Kd.R_types j3.out a1.out (by decide)) (fun _ hk=>hk.2) (.slice f2 e3.length f8)) (fun _ hk=>hk.1)⟩,⟨zq148⟩,⟨zq149⟩,⟨by refine zqe ?_;refine blk_put (cs:= #[.slice c0 b6.length c2,a3]) ?_ 1 _ rfl;refine zqe ?_;exact a1.out⟩,⟨zq14⟩⟩
                   ·rw [if_neg m2] at H;exact absurd H (by simp)
                  ·rw [if_neg m1] at H;exact absurd H (by simp)
                 ·rw [if_neg m0] at H;exact absurd H (by simp)
                ·rw [if_neg l9] at H;exact absurd H (by simp)
               ·rw [if_neg l8] at H;exact absurd H (by simp)
              ·rw [if_neg l7] at H;exact absurd H (by simp)
             ·rw [if_neg l6] at H;exact absurd H (by simp)
            ·rw [if_neg l5] at H;exact absurd H (by simp)
        ·rw [if_neg e6] at H;have p5:decide (a0<(l1.length:Int))=false:=decide_eq_false e6;clear e6;simp only [Option.some.injEq,Prod.mk.injEq] at H;obtain⟨rfl,rfl⟩:=H;have x7:=c8.out;have y4:=b7.out;have x8:=d0.out;have y5:=b8.out;have s2:wr.cell? ⟨a5,0,none⟩=some (b3):=(blk_cell a1.out 0).trans rfl;have s3:wr.cell? ⟨a5,1,none⟩=some (a3):=(blk_cell a1.out 1).trans rfl;have t2:=blk_frozen a1.out 0;have t3:=blk_frozen a1.out 1;obtain⟨f3,f9,r0⟩:=Kd.S_slice HO_296000.out;subst r0;have x9:=g7.out;have y6:=g6.out;have s4:wr.cell? ⟨a9,0,none⟩=some (.slice none 0 0):=(blk_cell a4.out 0).trans rfl;have s5:wr.cell? ⟨a9,1,none⟩=some (.slice none 0 0):=(blk_cell a4.out 1).trans rfl;have t4:=blk_frozen a4.out 0;have t5:=blk_frozen a4.out 1;obtain⟨h1,h2,r3⟩:=Kd.R_slice HO_296001.out;subst r3
         go_wp2
         refine bodyPost_ret (results_cell_row rfl _ _ a9 30 #[.slice f3 b0.length f9,.slice h1 a6.length h2] (0,0) _ rfl (by refine zqe ?_;refine blk_put (cs:= #[.slice f3 b0.length f9,.slice none 0 0]) ?_ 1 _ rfl;refine zqe ?_;refine blk_put (cs:= #[.slice none 0 0,.slice none 0 0]) ?_ 0 _ rfl;refine zqe ?_;exact a4.out) Tryz.underlying30 rfl zqk) rfl ?_;exact⟨_,_,zq18,by refine zqfS ?_;exact Kd.S_mono (Kd.S_far (p:=⟨a9,1,none⟩) (Kd.S_far (p:=⟨a9,0,none⟩) (Kd.S_types HO_296000.out a4.out (by decide)) (fun _ hk=>hk.2) (.slice f3 b0.length f9)) (fun _ hk=>hk.2) (.slice h1 a6.length h2)) (fun _ hk=>hk.1.2),by refine zqfR ?_;exact Kd.R_mono (Kd.R_far (p:=⟨a9,1,none⟩) (Kd.R_far (p:=⟨a9,0,none⟩) (Kd.R_types HO_296001.out a4.out (by decide)) (fun _ hk=>hk.2) (.slice f3 b0.length f9)) (fun _ hk=>hk.2) (.slice h1 a6.length h2)) (fun _ hk=>trivial),zq14⟩
  ·rw [if_neg c4] at H;exact absurd H (by simp)
 ·rw [if_neg c3] at H;exact absurd H (by simp)
end
section
attribute [local go_sem] max2_int min2_int max_two min_two max_three min_three max_four min_four
theorem lit6 {W : World} {base : Nat} {v0 v1 v2 v3 v4 v5 : Value} {x0 x1 x2 x3 x4 x5 : List Int} {o0 o1 o2 o3 o4 o5 : Nat → Prop} (h0 : (Kd.int .i64).R 3 W base o0 v0 x0) (h1 : (Kd.int .i64).R 3 W base o1 v1 x1) (h2 : (Kd.int .i64).R 3 W base o2 v2 x2) (h3 : (Kd.int .i64).R 3 W base o3 v3 x3) (h4 : (Kd.int .i64).R 3 W base o4 v4 x4) (h5 : (Kd.int .i64).R 3 W base o5 v5 x5) (a1 : ∀ k, o1 k → some k ≠ v0.ownBlock) (a2 : ∀ k, o2 k → some k ≠ v0.ownBlock ∧ some k ≠ v1.ownBlock) (a3 : ∀ k, o3 k → some k ≠ v0.ownBlock ∧ some k ≠ v1.ownBlock ∧ some k ≠ v2.ownBlock) (a4 : ∀ k, o4 k → some k ≠ v0.ownBlock ∧ some k ≠ v1.ownBlock ∧ some k ≠ v2.ownBlock ∧ some k ≠ v3.ownBlock) (a5 : ∀ k, o5 k → some k ≠ v0.ownBlock ∧ some k ≠ v1.ownBlock ∧ some k ≠ v2.ownBlock ∧ some k ≠ v3.ownBlock ∧ some k ≠ v4.ownBlock) :
 ∃f:Nat→Nat,Reps ((Kd.tag f (Kd.slice 3 (Kd.int .i64))).M W base (fun _=>True)) 1 [(x0,0),(x1,1),(x2,2),(x3,3),(x4,4),(x5,5)] [v0,v1,v2,v3,v4,v5]:=by
 refine⟨(fun k=>if some k=v0.ownBlock then 0 else if some k=v1.ownBlock then 1 else if some k=v2.ownBlock then 2 else if some k=v3.ownBlock then 3 else if some k=v4.ownBlock then 4 else 5),?_⟩
 refine Reps.one ?_ (Reps.one ?_ (Reps.one ?_ (Reps.one ?_ (Reps.one ?_ (Reps.one ?_ (Reps.none _ _))))))
 ·refine⟨_,rfl,Kd.R_mono (Kd.R_tight rfl h0) (fun k hk=>⟨trivial,?_⟩)⟩
  have h_:=h0.1 k hk.symm
  show (if some k=v0.ownBlock then 0 else if some k=v1.ownBlock then 1 else if some k=v2.ownBlock then 2 else if some k=v3.ownBlock then 3 else if some k=v4.ownBlock then 4 else 5)=0
  rw [if_pos hk]
 ·refine⟨_,rfl,Kd.R_mono (Kd.R_tight rfl h1) (fun k hk=>⟨trivial,?_⟩)⟩
  have h_:=h1.1 k hk.symm
  have n_:=a1 k h_
  show (if some k=v0.ownBlock then 0 else if some k=v1.ownBlock then 1 else if some k=v2.ownBlock then 2 else if some k=v3.ownBlock then 3 else if some k=v4.ownBlock then 4 else 5)=1
  rw [if_neg n_]
  rw [if_pos hk]
 ·refine⟨_,rfl,Kd.R_mono (Kd.R_tight rfl h2) (fun k hk=>⟨trivial,?_⟩)⟩
  have h_:=h2.1 k hk.symm
  have n_:=a2 k h_
  show (if some k=v0.ownBlock then 0 else if some k=v1.ownBlock then 1 else if some k=v2.ownBlock then 2 else if some k=v3.ownBlock then 3 else if some k=v4.ownBlock then 4 else 5)=2
  rw [if_neg n_.1]
  rw [if_neg n_.2]
  rw [if_pos hk]
 ·refine⟨_,rfl,Kd.R_mono (Kd.R_tight rfl h3) (fun k hk=>⟨trivial,?_⟩)⟩
  have h_:=h3.1 k hk.symm
  have n_:=a3 k h_
  show (if some k=v0.ownBlock then 0 else if some k=v1.ownBlock then 1 else if some k=v2.ownBlock then 2 else if some k=v3.ownBlock then 3 else if some k=v4.ownBlock then 4 else 5)=3
  rw [if_neg n_.1]
  rw [if_neg n_.2.1]
  rw [if_neg n_.2.2]
  rw [if_pos hk]
 ·refine⟨_,rfl,Kd.R_mono (Kd.R_tight rfl h4) (fun k hk=>⟨trivial,?_⟩)⟩
  have h_:=h4.1 k hk.symm
  have n_:=a4 k h_
  show (if some k=v0.ownBlock then 0 else if some k=v1.ownBlock then 1 else if some k=v2.ownBlock then 2 else if some k=v3.ownBlock then 3 else if some k=v4.ownBlock then 4 else 5)=4
  rw [if_neg n_.1]
  rw [if_neg n_.2.1]
  rw [if_neg n_.2.2.1]
  rw [if_neg n_.2.2.2]
  rw [if_pos hk]
 ·refine⟨_,rfl,Kd.R_mono (Kd.R_tight rfl h5) (fun k hk=>⟨trivial,?_⟩)⟩
  have h_:=h5.1 k hk.symm
  have n_:=a5 k h_
  show (if some k=v0.ownBlock then 0 else if some k=v1.ownBlock then 1 else if some k=v2.ownBlock then 2 else if some k=v3.ownBlock then 3 else if some k=v4.ownBlock then 4 else 5)=5
  rw [if_neg n_.1]
  rw [if_neg n_.2.1]
  rw [if_neg n_.2.2.1]
  rw [if_neg n_.2.2.2.1]
  rw [if_neg n_.2.2.2.2]
def spec_l20Six.f  : Option ((List (List Int)) × List Int) := some (([([1, 1, 1, 1, 1, 1] : List Int), ([0, 1, 1, 0, 0, 1] : List Int), ([0, 0, 1, 0, 0, 1] : List Int), ([0, 0, 0, 1, 1, 1] : List Int), ([0, 0, 0, 0, 1, 1] : List Int), ([0, 0, 0, 0, 0, 1] : List Int)] : List (List Int)), ([5, 4, 3, 2, 1, 0] : List Int))
set_option maxHeartbeats 8000000 in
set_option maxRecDepth 100000 in
theorem spec_l20Six.calls  (r1 : List (List Int)) (r2 : List Int) (w : World) (h : spec_l20Six.f  = some (r1, r2)) :
 Calls Tryz.prog 48 #[] w fun e w'=> ∃v0_ v1_:Value,e= .returned (.agg #[v0_,v1_])∧Kd.S (Kd.slice 3 (Kd.int .i64)) 28 w' w.heap.size (fun k_=>some k_≠(v1_:Value).ownBlock) v0_ r1∧Kd.R (Kd.int .i64) 3 w' w.heap.size (fun _=>True) v1_ r2∧Below w.heap.size w w':=by
 have hu30:=Tryz.underlying30
 have HB:=zqm (Below.refl w.heap.size w)
 unfold spec_l20Six.f at h
 simp only [Option.some.injEq,Prod.mk.injEq] at h
 obtain⟨rfl,rfl⟩:=h
 go_enter Tryz.func48,Tryz.ntmps48
 go_wp2_with (first|((with_reducible refine gate_dst (N:=0) rfl ?_);refine box_event ?hg (N:=0) ?hd (cs:= #[.slice none 0 0,.slice none 0 0]) (t:=30) ?hr ?_;(case hd=>rfl);(case hg=>rfl);(case hr=> exact zq16);intro gb hg w1 hbox hb;have n0_:=zqm (below_step zq5 hb);have BK:=zqm hbox;have GE:=zqm ((by rw [hg];exact(below_size zq5)):w.heap.size≤gb);clear HB;have HB:=n0_;clear n0_ hb hbox hg)|((with_reducible refine gate_dst (N:=1) rfl ?_);refine Kd.R_lit (Kd.int .i64) _ 3 ?hg (N:=1) ?hd (xs:=([1,1,1,1,1,1]:List Int)) (inner:= [.int .i64 1,.int .i64 1,.int .i64 1,.int .i64 1,.int .i64 1,.int .i64 1]) (ok:=fun _=>True) (okp:=fun _=>True) ?hr ?hp (fun _ hk=>hk) trivial (Below.refl _ _) (Nat.le_refl _) (by simp) ?_;(case hd=>rfl);(case hg=>rfl);(case hr=> exact zq16);(case hp=>exact(Reps.one (show Kd.M (Kd.int .i64) _ _ _ 1 [.int .i64 1] from rfl) (Reps.one (show Kd.M (Kd.int .i64) _ _ _ 1 [.int .i64 1] from rfl) (Reps.one (show Kd.M (Kd.int .i64) _ _ _ 1 [.int .i64 1] from rfl) (Reps.one (show Kd.M (Kd.int .i64) _ _ _ 1 [.int .i64 1] from rfl) (Reps.one (show Kd.M (Kd.int .i64) _ _ _ 1 [.int .i64 1] from rfl) (Reps.one (show Kd.M (Kd.int .i64) _ _ _ 1 [.int .i64 1] from rfl) (Reps.none _ _))))))));intro v0 w2 ho hb hg_ hnew_;clear hg_ hnew_;have n0_:=zqm (Kd.R_lower ho (below_size zq17));have n1_:=zqm (blk_below (g:=gb) (o:= .cells #[.slice none 0 0,.slice none 0 0] 30 (0,0)) BK.out hb);have n2_:=zqm (below_step zq17 hb);clear BK;clear HB;have Hv0:=n0_;have BK:=n1_;have HB:=n2_;clear n0_ n1_ n2_;clear hb ho)|((with_reducible refine gate_dst (N:=2) rfl ?_);refine Kd.R_lit (Kd.int .i64) _ 3 ?hg (N:=2) ?hd (xs:=([0,1,1,0,0,1]:List Int)) (inner:= [.int .i64 0,.int .i64 1,.int .i64 1,.int .i64 0,.int .i64 0,.int .i64 1]) (ok:=fun _=>True) (okp:=fun _=>True) ?hr ?hp (fun _ hk=>hk) trivial (Below.refl _ _) (Nat.le_refl _) (by simp) ?_;(case hd=>rfl);(case hg=>rfl);(case hr=> exact zq16);(case hp=>exact(Reps.one (show Kd.M (Kd.int .i64) _ _ _ 0 [.int .i64 0] from rfl) (Reps.one (show Kd.M (Kd.int .i64) _ _ _ 1 [.int .i64 1] from rfl) (Reps.one (show Kd.M (Kd.int .i64) _ _ _ 1 [.int .i64 1] from rfl) (Reps.one (show Kd.M (Kd.int .i64) _ _ _ 0 [.int .i64 0] from rfl) (Reps.one (show Kd.M (Kd.int .i64) _ _ _ 0 [.int .i64 0] from rfl) (Reps.one (show Kd.M (Kd.int .i64) _ _ _ 1 [.int .i64 1] from rfl) (Reps.none _ _))))))));intro v1 w3 ho hb hg_ hnew_;clear hg_ hnew_;have n0_:=zqm (Kd.R_elder' Hv0.out (Kd.R_base ho) hb);have n1_:=zqm (Kd.R_lower (Kd.R_new' ho (Kd.R_lt Hv0.out)) (below_size zq17));have n2_:=zqm (blk_below (g:=gb) (o:= .cells #[.slice none 0 0,.slice none 0 0] 30 (0,0)) BK.out hb);have n3_:=zqm (below_step zq17 hb);clear Hv0;clear BK;clear HB;have Hv0:=n0_;have Hv1:=n1_;have BK:=n2_;have HB:=n3_;clear n0_ n1_ n2_ n3_;clear hb ho)|((with_reducible refine gate_dst (N:=3) rfl ?_);refine Kd.R_lit (Kd.int .i64) _ 3 ?hg (N:=3) ?hd (xs:=([0,0,1,0,0,1]:List Int)) (inner:= [.int .i64 0,.int .i64 0,.int .i64 1,.int .i64 0,.int .i64 0,.int .i64 1]) (ok:=fun _=>True) (okp:=fun _=>True) ?hr ?hp (fun _ hk=>hk) trivial (Below.refl _ _) (Nat.le_refl _) (by simp) ?_;(case hd=>rfl);(case hg=>rfl);(case hr=> exact zq16);(case hp=>exact(Reps.one (show Kd.M (Kd.int .i64) _ _ _ 0 [.int .i64 0] from rfl) (Reps.one (show Kd.M (Kd.int .i64) _ _ _ 0 [.int .i64 0] from rfl) (Reps.one (show Kd.M (Kd.int .i64) _ _ _ 1 [.int .i64 1] from rfl) (Reps.one (show Kd.M (Kd.int .i64) _ _ _ 0 [.int .i64 0] from rfl) (Reps.one (show Kd.M (Kd.int .i64) _ _ _ 0 [.int .i64 0] from rfl) (Reps.one (show Kd.M (Kd.int .i64) _ _ _ 1 [.int .i64 1] from rfl) (Reps.none _ _))))))));intro v2 w4 ho hb hg_ hnew_;clear hg_ hnew_;have n0_:=zqm (Kd.R_elder' Hv0.out (Kd.R_base ho) hb);have n1_:=zqm (Kd.R_elder' Hv1.out (Kd.R_base ho) hb);have n2_:=zqm (Kd.R_lower (Kd.R_new' (Kd.R_new' ho (Kd.R_lt Hv0.out)) (Kd.R_lt Hv1.out)) (below_size zq17));have n3_:=zqm (blk_below (g:=gb) (o:= .cells #[.slice none 0 0,.slice none 0 0] 30 (0,0)) BK.out hb);have n4_:=zqm (below_step zq17 hb);clear Hv0;clear Hv1;clear BK;clear HB;have Hv0:=n0_;have Hv1:=n1_;have Hv2:=n2_;have BK:=n3_;have HB:=n4_;clear n0_ n1_ n2_ n3_ n4_;clear hb ho)|((with_reducible refine gate_dst (N:=4) rfl ?_);refine Kd.R_lit (Kd.int .i64) _ 3 ?hg (N:=4) ?hd (xs:=([0,0,0,1,1,1]:List Int)) (inner:= [.int .i64 0,.int .i64 0,.int .i64 0,.int .i64 1,.int .i64 1,.int .i64 1]) (ok:=fun _=>True) (okp:=fun _=>True) ?hr ?hp (fun _ hk=>hk) trivial (Below.refl _ _) (Nat.le_refl _) (by simp) ?_;(case hd=>rfl);(case hg=>rfl);(case hr=> exact zq16);(case hp=>exact(Reps.one (show Kd.M (Kd.int .i64) _ _ _ 0 [.int .i64 0] from rfl) (Reps.one (show Kd.M (Kd.int .i64) _ _ _ 0 [.int .i64 0] from rfl) (Reps.one (show Kd.M (Kd.int .i64) _ _ _ 0 [.int .i64 0] from rfl) (Reps.one (show Kd.M (Kd.int .i64) _ _ _ 1 [.int .i64 1] from rfl) (Reps.one (show Kd.M (Kd.int .i64) _ _ _ 1 [.int .i64 1] from rfl) (Reps.one (show Kd.M (Kd.int .i64) _ _ _ 1 [.int .i64 1] from rfl) (Reps.none _ _))))))));intro v3 w5 ho hb hg_ hnew_;clear hg_ hnew_;have n0_:=zqm (Kd.R_elder' Hv0.out (Kd.R_base ho) hb);have n1_:=zqm (Kd.R_elder' Hv1.out (Kd.R_base ho) hb);have n2_:=zqm (Kd.R_elder' Hv2.out (Kd.R_base ho) hb);have n3_:=zqm (Kd.R_lower (Kd.R_new' (Kd.R_new' (Kd.R_new' ho (Kd.R_lt Hv0.out)) (Kd.R_lt Hv1.out)) (Kd.R_lt Hv2.out)) (below_size zq17));have n4_:=zqm (blk_below (g:=gb) (o:= .cells #[.slice none 0 0,.slice none 0 0] 30 (0,0)) BK.out hb);have n5_:=zqm (below_step zq17 hb);clear Hv0;clear Hv1;clear Hv2;clear BK;clear HB;have Hv0:=n0_;have Hv1:=n1_;have Hv2:=n2_;have Hv3:=n3_;have BK:=n4_;have HB:=n5_;clear n0_ n1_ n2_ n3_ n4_ n5_;clear hb ho)|((with_reducible refine gate_dst (N:=5) rfl ?_);refine Kd.R_lit (Kd.int .i64) _ 3 ?hg (N:=5) ?hd (xs:=([0,0,0,0,1,1]:List Int)) (inner:= [.int .i64 0,.int .i64 0,.int .i64 0,.int .i64 0,.int .i64 1,.int .i64 1]) (ok:=fun _=>True) (okp:=fun _=>True) ?hr ?hp (fun _ hk=>hk) trivial (Below.refl _ _) (Nat.le_refl _) (by simp) ?_;(case hd=>rfl);(case hg=>rfl);(case hr=> exact zq16);(case hp=>exact(Reps.one (show Kd.M (Kd.int .i64) _ _ _ 0 [.int .i64 0] from rfl) (Reps.one (show Kd.M (Kd.int .i64) _ _ _ 0 [.int .i64 0] from rfl) (Reps.one (show Kd.M (Kd.int .i64) _ _ _ 0 [.int .i64 0] from rfl) (Reps.one (show Kd.M (Kd.int .i64) _ _ _ 0 [.int .i64 0] from rfl) (Reps.one (show Kd.M (Kd.int .i64) _ _ _ 1 [.int .i64 1] from rfl) (Reps.one (show Kd.M (Kd.int .i64) _ _ _ 1 [.int .i64 1] from rfl) (Reps.none _ _))))))));intro v4 w6 ho hb hg_ hnew_;clear hg_ hnew_;have n0_:=zqm (Kd.R_elder' Hv0.out (Kd.R_base ho) hb);have n1_:=zqm (Kd.R_elder' Hv1.out (Kd.R_base ho) hb);have n2_:=zqm (Kd.R_elder' Hv2.out (Kd.R_base ho) hb);have n3_:=zqm (Kd.R_elder' Hv3.out (Kd.R_base ho) hb);have n4_:=zqm (Kd.R_lower (Kd.R_new' (Kd.R_new' (Kd.R_new' (Kd.R_new' ho (Kd.R_lt Hv0.out)) (Kd.R_lt Hv1.out)) (Kd.R_lt Hv2.out)) (Kd.R_lt Hv3.out)) (below_size zq17));have n5_:=zqm (blk_below (g:=gb) (o:= .cells #[.slice none 0 0,.slice none 0 0] 30 (0,0)) BK.out hb);have n6_:=zqm (below_step zq17 hb);clear Hv0;clear Hv1;clear Hv2;clear Hv3;clear BK;clear HB;have Hv0:=n0_;have Hv1:=n1_;have Hv2:=n2_;have Hv3:=n3_;have Hv4:=n4_;have BK:=n5_;have HB:=n6_;clear n0_ n1_ n2_ n3_ n4_ n5_ n6_;clear hb ho)|((with_reducible refine gate_dst (N:=6) rfl ?_);refine Kd.R_lit (Kd.int .i64) _ 3 ?hg (N:=6) ?hd (xs:=([0,0,0,0,0,1]:List Int)) (inner:= [.int .i64 0,.int .i64 0,.int .i64 0,.int .i64 0,.int .i64 0,.int .i64 1]) (ok:=fun _=>True) (okp:=fun _=>True) ?hr ?hp (fun _ hk=>hk) trivial (Below.refl _ _) (Nat.le_refl _) (by simp) ?_;(case hd=>rfl);(case hg=>rfl);(case hr=> exact zq16);(case hp=>exact(Reps.one (show Kd.M (Kd.int .i64) _ _ _ 0 [.int .i64 0] from rfl) (Reps.one (show Kd.M (Kd.int .i64) _ _ _ 0 [.int .i64 0] from rfl) (Reps.one (show Kd.M (Kd.int .i64) _ _ _ 0 [.int .i64 0] from rfl) (Reps.one (show Kd.M (Kd.int .i64) _ _ _ 0 [.int .i64 0] from rfl) (Reps.one (show Kd.M (Kd.int .i64) _ _ _ 0 [.int .i64 0] from rfl) (Reps.one (show Kd.M (Kd.int .i64) _ _ _ 1 [.int .i64 1] from rfl) (Reps.none _ _))))))));intro v5 w7 ho hb hg_ hnew_;clear hg_ hnew_;have n0_:=zqm (Kd.R_elder' Hv0.out (Kd.R_base ho) hb);have n1_:=zqm (Kd.R_elder' Hv1.out (Kd.R_base ho) hb);have n2_:=zqm (Kd.R_elder' Hv2.out (Kd.R_base ho) hb);have n3_:=zqm (Kd.R_elder' Hv3.out (Kd.R_base ho) hb);have n4_:=zqm (Kd.R_elder' Hv4.out (Kd.R_base ho) hb);have n5_:=zqm (Kd.R_lower (Kd.R_new' (Kd.R_new' (Kd.R_new' (Kd.R_new' (Kd.R_new' ho (Kd.R_lt Hv0.out)) (Kd.R_lt Hv1.out)) (Kd.R_lt Hv2.out)) (Kd.R_lt Hv3.out)) (Kd.R_lt Hv4.out)) (below_size zq17));have n6_:=zqm (blk_below (g:=gb) (o:= .cells #[.slice none 0 0,.slice none 0 0] 30 (0,0)) BK.out hb);have n7_:=zqm (below_step zq17 hb);clear Hv0;clear Hv1;clear Hv2;clear Hv3;clear Hv4;clear BK;clear HB;have Hv0:=n0_;have Hv1:=n1_;have Hv2:=n2_;have Hv3:=n3_;have Hv4:=n4_;have Hv5:=n5_;have BK:=n6_;have HB:=n7_;clear n0_ n1_ n2_ n3_ n4_ n5_ n6_ n7_;clear hb ho;obtain⟨A0,c0,e0⟩:=Kd.R_slice Hv0.out;subst e0;obtain⟨A1,c1,e1⟩:=Kd.R_slice Hv1.out;subst e1;obtain⟨A2,c2,e2⟩:=Kd.R_slice Hv2.out;subst e2;obtain⟨A3,c3,e3⟩:=Kd.R_slice Hv3.out;subst e3;obtain⟨A4,c4,e4⟩:=Kd.R_slice Hv4.out;subst e4;obtain⟨A5,c5,e5⟩:=Kd.R_slice Hv5.out;subst e5)|((with_reducible refine gate_dst (N:=7) rfl ?_);obtain⟨f_,hrep_⟩:=lit6 Hv0.out Hv1.out Hv2.out Hv3.out Hv4.out Hv5.out (fun _ h=>h.1.1.1.1.2) (fun _ h=>⟨h.1.1.1.1.2,h.1.1.1.2⟩) (fun _ h=>⟨h.1.1.1.1.2,h.1.1.1.2,h.1.1.2⟩) (fun _ h=>⟨h.1.1.1.1.2,h.1.1.1.2,h.1.1.2,h.1.2⟩) (fun _ h=>⟨h.1.1.1.1.2,h.1.1.1.2,h.1.1.2,h.1.2,h.2⟩);refine Kd.R_lit (Kd.tag f_ (Kd.slice 3 (Kd.int .i64))) w.heap.size 28 ?hg (N:=7) ?hd (xs:= [(([1,1,1,1,1,1]:List Int),0),(([0,1,1,0,0,1]:List Int),1),(([0,0,1,0,0,1]:List Int),2),(([0,0,0,1,1,1]:List Int),3),(([0,0,0,0,1,1]:List Int),4),(([0,0,0,0,0,1]:List Int),5)]) (inner:= [(Value.slice A0 ([1,1,1,1,1,1]:List Int).length c0),(Value.slice A1 ([0,1,1,0,0,1]:List Int).length c1),(Value.slice A2 ([0,0,1,0,0,1]:List Int).length c2),(Value.slice A3 ([0,0,0,1,1,1]:List Int).length c3),(Value.slice A4 ([0,0,0,0,1,1]:List Int).length c4),(Value.slice A5 ([0,0,0,0,0,1]:List Int).length c5)]) (ok:=fun _=>True) (okp:=fun _=>True) ?hr hrep_ (fun _ hk=>hk) trivial (show Below w.heap.size w _ from zq17) (below_size zq17) (by simp) ?_;(case hd=>rfl);(case hg=>rfl);(case hr=> exact zq16);intro u w8 ho hb hg_ hnew_;clear hnew_ hrep_;have n0_:=zqm (show Kd.S (Kd.slice 3 (Kd.int .i64)) 28 w8 w.heap.size (fun _=>True) u [([1,1,1,1,1,1]:List Int),([0,1,1,0,0,1]:List Int),([0,0,1,0,0,1]:List Int),([0,0,0,1,1,1]:List Int),([0,0,0,0,1,1]:List Int),([0,0,0,0,0,1]:List Int)] from ⟨_,ho⟩);have n1_:=zqm (blk_grown BK.out hg_ (by simp));have n2_:=zqm hb;clear BK;clear HB;clear hg_;clear Hv0;clear Hv1;clear Hv2;clear Hv3;clear Hv4;clear Hv5;have Hu:=n0_;have BK:=n1_;have HB:=n2_;clear n0_ n1_ n2_;clear hb ho)|((with_reducible refine gate_dst (N:=8) rfl ?_);refine Kd.R_lit (Kd.int .i64) _ 3 ?hg (N:=8) ?hd (xs:=([5,4,3,2,1,0]:List Int)) (inner:= [.int .i64 5,.int .i64 4,.int .i64 3,.int .i64 2,.int .i64 1,.int .i64 0]) (ok:=fun _=>True) (okp:=fun _=>True) ?hr ?hp (fun _ hk=>hk) trivial (Below.refl _ _) (Nat.le_refl _) (by simp) ?_;(case hd=>rfl);(case hg=>rfl);(case hr=> exact zq16);(case hp=>exact(Reps.one (show Kd.M (Kd.int .i64) _ _ _ 5 [.int .i64 5] from rfl) (Reps.one (show Kd.M (Kd.int .i64) _ _ _ 4 [.int .i64 4] from rfl) (Reps.one (show Kd.M (Kd.int .i64) _ _ _ 3 [.int .i64 3] from rfl) (Reps.one (show Kd.M (Kd.int .i64) _ _ _ 2 [.int .i64 2] from rfl) (Reps.one (show Kd.M (Kd.int .i64) _ _ _ 1 [.int .i64 1] from rfl) (Reps.one (show Kd.M (Kd.int .i64) _ _ _ 0 [.int .i64 0] from rfl) (Reps.none _ _))))))));intro q w9 ho hb hg_ hnew_;clear hg_ hnew_;have n0_:=zqm (Kd.S_elder' Hu.out (Kd.R_base ho) hb);have n1_:=zqm (Kd.R_lower ho (below_size zq17));have n2_:=zqm (blk_below (g:=gb) (o:= .cells #[.slice none 0 0,.slice none 0 0] 30 (0,0)) BK.out hb);have n3_:=zqm (below_step zq17 hb);clear Hu;clear BK;clear HB;have Hu:=n0_;have Hq:=n1_;have BK:=n2_;have HB:=n3_;clear n0_ n1_ n2_ n3_;clear hb ho;obtain⟨Aq,cq,eq_⟩:=Kd.R_slice Hq.out;subst eq_;obtain⟨Au,cu,eu_⟩:=Kd.R_slice (Kd.S_R Hu.out);subst eu_;have hcz0:w9.cell? ⟨gb,0,none⟩=some (.slice none 0 0):=(blk_cell BK.out 0).trans rfl;have hcz1:w9.cell? ⟨gb,1,none⟩=some (.slice none 0 0):=(blk_cell BK.out 1).trans rfl;have hfz0:=blk_frozen BK.out 0;have hfz1:=blk_frozen BK.out 1))
 refine bodyPost_ret (results_cell_row rfl _ _ gb 30 #[.slice Au ([([1,1,1,1,1,1]:List Int),([0,1,1,0,0,1]:List Int),([0,0,1,0,0,1]:List Int),([0,0,0,1,1,1]:List Int),([0,0,0,0,1,1]:List Int),([0,0,0,0,0,1]:List Int)]:List (List Int)).length cu,.slice Aq ([5,4,3,2,1,0]:List Int).length cq] (0,0) _ rfl (by refine zqe ?_;refine blk_put (cs:= #[.slice Au ([([1,1,1,1,1,1]:List Int),([0,1,1,0,0,1]:List Int),([0,0,1,0,0,1]:List Int),([0,0,0,1,1,1]:List Int),([0,0,0,0,1,1]:List Int),([0,0,0,0,0,1]:List Int)]:List (List Int)).length cu,.slice none 0 0]) ?_ 1 _ rfl;refine blk_put (cs:= #[.slice none 0 0,.slice none 0 0]) ?_ 0 _ rfl;exact BK.out) Tryz.underlying30 rfl zqk) rfl ?_
 exact⟨_,_,rfl,Kd.S_mono (Kd.S_far (p:=⟨gb,1,none⟩) (Kd.S_far (p:=⟨gb,0,none⟩) (Kd.S_types Hu.out BK.out (by decide)) (fun _ hk=>hk.2) _) (fun _ hk=>hk.2) _) (fun _ hk=>hk.1.2),Kd.R_mono (Kd.R_far (p:=⟨gb,1,none⟩) (Kd.R_far (p:=⟨gb,0,none⟩) (Kd.R_types Hq.out BK.out (by decide)) (fun _ hk=>hk.2) _) (fun _ hk=>hk.2) _) (fun _ _=>trivial),zq17⟩
end
end Go.Proofs.YtbomiegcbimgoaaGreat.Print
end
