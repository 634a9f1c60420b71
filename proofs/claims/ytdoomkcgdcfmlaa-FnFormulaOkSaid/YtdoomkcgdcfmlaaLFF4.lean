/- Part 4 of what is common to several claims of this seat: FnFormulaOkL. -/
import Derived.Test.YtdoomkcgdcfmlaaLFF3
import Derived.Below
import Derived.Deep.Draws
import Derived.Deep.AppendLies
import Derived.Maps.AppendAt
import Derived.OwnWalk
import Derived.Laws.BytesArg
import Derived.Laws.MakeOwn
import Derived.Laws.OwnMore
import Derived.Deep.OwnRows
import Derived.Tactics
import Derived.Lib.ConvBytes
import Derived.Laws.Slices
import Derived.WalkKit
import Derived.KernelRfl
import Derived.RowKit3
import Derived.Deep.LoopGhost
import Derived.Deep.QuietTactic
import Derived.BigQuiet
import Derived.WideLaws
import Derived.Deep.DeepCutAuto
import Derived.Deep.CutBlock
import Derived.Deep.RegionHeld3
import Derived.Laws.Rows
import Derived.Lib.AppendStr
import Derived.ArgAppend
import Derived.Laws.IdiomCopy
import Derived.RowKit
import Derived.OrdersHeld
import Derived.Laws.BitsLemmas
import Derived.Test.YtdoomkcgdcfmlaaProg
section
namespace Go.Proofs.Ytdoomkcgdcfmlaa.Print
open Go.RowKit Go.Proofs.YtdoomkcgdcfmlaaW.PrintWords Go.Proofs.YtdoomkcgdcfmlaaW.PrintLast Go.Proofs.YtdoomkcgdcfmlaaW.PrintMore
attribute [local go_sem] max2_int min2_int max_two min_two max_three min_three max_four min_four   -- for this text's walks alone
set_option linter.unusedVariables false
set_option linter.unusedSimpArgs false
def spec_l20Formed.j0 : Nat → Int → ByteArray → List Int → Int → Option (ByteArray × Int)
  | 0, _, _, _, _ => none
  | k + 1, x1, x5, x1000, x1001 => (spec_l20Rd_odd.f k x1000 x1001 x1).bind fun bt132 => (if bt132.1 = true then ((spec_l20Rd_pick.f k x1000 bt132.2 (x5.size : Int)).bind fun bt134 => (if 0 ≤ bt134.1 then (if bt134.1 ≤ (x5.size : Int) then ((some (([(⟨#[]⟩ : ByteArray), (⟨#[40]⟩ : ByteArray), (⟨#[41]⟩ : ByteArray), (⟨#[100]⟩ : ByteArray), (⟨#[38]⟩ : ByteArray)] : List ByteArray) : List ByteArray)).bind fun y136 => ((spec_l20Rd_pick.f k x1000 bt134.2 5).bind fun bt139 => (if 0 ≤ bt139.1 then (if bt139.1 < (y136.length : Int) then (if (x5.extract 0 (bt134.1 : Int).toNat).size + (rdOf ByteArray.empty y136 bt139.1).size ≤ 9223372036854775807 then (if 0 ≤ (wrap64 (bt134.1 + 1)) then (if (wrap64 (bt134.1 + 1)) ≤ (x5.size : Int) then (if ((x5.extract 0 (bt134.1 : Int).toNat) ++ (rdOf ByteArray.empty y136 bt139.1)).size + (x5.extract ((wrap64 (bt134.1 + 1)) : Int).toNat x5.size).size ≤ 9223372036854775807 then (some (((x5.extract 0 (bt134.1 : Int).toNat) ++ (rdOf ByteArray.empty y136 bt139.1)) ++ (x5.extract ((wrap64 (bt134.1 + 1)) : Int).toNat x5.size), bt139.2)) else (none)) else (none)) else (none)) else (none)) else (none)) else (none)))) else (none)) else (none))) else (some (x5, bt132.2)))
def spec_l20Formed.f (k : Nat) (s0_0 : List Int) (s0_1 : Int) (a1 : Int) : Option (ByteArray × Int) := (spec_l20Formula.f k s0_0 s0_1 3).bind fun bt128 => ((spec_l20Rd_pick.f k s0_0 bt128.2 8).bind fun bt130 => (if bt130.1 = 0 then (spec_l20Formed.j0 k a1 (⟨#[40, 33, 97, 124, 40, 97, 38, 40, 33, 97, 124, 98, 41, 41, 41]⟩ : ByteArray) s0_0 bt130.2) else (if bt130.1 = 1 then (spec_l20Formed.j0 k a1 (⟨#[40, 97, 124, 33, 97, 41]⟩ : ByteArray) s0_0 bt130.2) else (if bt130.1 = 2 then (spec_l20Formed.j0 k a1 (⟨#[40, 40, 97, 38, 98, 41, 124, 40, 40, 97, 38, 33, 98, 41, 124, 40, 33, 97, 124, 33, 98, 41, 41, 41]⟩ : ByteArray) s0_0 bt130.2) else (spec_l20Formed.j0 k a1 bt128.1 s0_0 bt130.2)))))
def spec_l20Formed.T11 : Bool × List (List Nat × List Nat) := (true, [([], []), ([], []), ([0, 1], [0, 1]), ([], []), ([], []), ([4], [4]), ([3, 5], [3, 5]), ([6], [6]), ([2, 7], [2, 7]), ([], []), ([], []), ([10], [10]), ([9, 11], [9, 11]), ([8, 12], [8, 12]), ([13, 5, 0, 1, 2, 3, 4, 5, 6, 7, 8, 9, 10, 11, 12, 13], [13])])
def spec_l20Formed.B11 : List Nat := [0, 0, 3, 0, 0, 16, 56, 120, 255, 0, 0, 1024, 3584, 8191, 16383]
theorem spec_l20Formed.tab11 : rtab .any (opsOf Try.f71 11) = spec_l20Formed.T11 := by kernel_rfl
theorem spec_l20Formed.bits11 : waitsOk spec_l20Formed.T11.2 spec_l20Formed.B11 = true := by kernel_rfl
set_option maxHeartbeats 8000000 in
set_option maxRecDepth 100000 in
theorem spec_l20Formed.calls (k : Nat) (g : Nat) (s0_0 : List Int) (s0_1 : Int) (a1 : Int) (r1 : ByteArray) (r2 : Int) (w0 w : World) (hI : IsS87 w0 w g s0_0 s0_1) (hB : Below w0.heap.size w0 w) (h : spec_l20Formed.f k s0_0 s0_1 a1 = some (r1, r2)) :
    Calls Try.prog 71 #[.pointer (some ⟨g, 0, none⟩), .int .i64 a1] w fun e w' => e = .returned (.string r1) ∧ IsS87 w0 w' g s0_0 r2 ∧ Below w0.heap.size w0 w' ∧ KeepBut w w' g none := by
  have HI0 := Aside0.mk hI
  have HK := Aside0.mk (KeepBut.refl w g none)
  have HL := Aside0.mk hB.size
  clear hI
  have HW0 := Aside0.mk hB.size
  have HB := Aside0.mk hB
  clear hB
  have H : ((spec_l20Formula.f k s0_0 s0_1 3).bind fun bt128 => ((spec_l20Rd_pick.f k s0_0 bt128.2 8).bind fun bt130 => (if bt130.1 = 0 then (spec_l20Formed.j0 k a1 (⟨#[40, 33, 97, 124, 40, 97, 38, 40, 33, 97, 124, 98, 41, 41, 41]⟩ : ByteArray) s0_0 bt130.2) else (if bt130.1 = 1 then (spec_l20Formed.j0 k a1 (⟨#[40, 97, 124, 33, 97, 41]⟩ : ByteArray) s0_0 bt130.2) else (if bt130.1 = 2 then (spec_l20Formed.j0 k a1 (⟨#[40, 40, 97, 38, 98, 41, 124, 40, 40, 97, 38, 33, 98, 41, 124, 40, 33, 97, 124, 33, 98, 41, 41, 41]⟩ : ByteArray) s0_0 bt130.2) else (spec_l20Formed.j0 k a1 bt128.1 s0_0 bt130.2)))))) = some (r1, r2) := h
  clear h
  replace H := Option.bind_eq_some_iff.mp H
  obtain ⟨⟨t128, t129⟩, A30, H⟩ := H
  replace H : ((spec_l20Rd_pick.f k s0_0 t129 8).bind fun bt130 => (if bt130.1 = 0 then (spec_l20Formed.j0 k a1 (⟨#[40, 33, 97, 124, 40, 97, 38, 40, 33, 97, 124, 98, 41, 41, 41]⟩ : ByteArray) s0_0 bt130.2) else (if bt130.1 = 1 then (spec_l20Formed.j0 k a1 (⟨#[40, 97, 124, 33, 97, 41]⟩ : ByteArray) s0_0 bt130.2) else (if bt130.1 = 2 then (spec_l20Formed.j0 k a1 (⟨#[40, 40, 97, 38, 98, 41, 124, 40, 40, 97, 38, 33, 98, 41, 124, 40, 33, 97, 124, 33, 98, 41, 41, 41]⟩ : ByteArray) s0_0 bt130.2) else (spec_l20Formed.j0 k a1 t128 s0_0 bt130.2))))) = some (r1, r2) := H
  have A3 := Aside0.mk A30
  clear A30
  replace H := Option.bind_eq_some_iff.mp H
  obtain ⟨⟨t130, t131⟩, A40, H⟩ := H
  replace H : (if t130 = 0 then (spec_l20Formed.j0 k a1 (⟨#[40, 33, 97, 124, 40, 97, 38, 40, 33, 97, 124, 98, 41, 41, 41]⟩ : ByteArray) s0_0 t131) else (if t130 = 1 then (spec_l20Formed.j0 k a1 (⟨#[40, 97, 124, 33, 97, 41]⟩ : ByteArray) s0_0 t131) else (if t130 = 2 then (spec_l20Formed.j0 k a1 (⟨#[40, 40, 97, 38, 98, 41, 124, 40, 40, 97, 38, 33, 98, 41, 124, 40, 33, 97, 124, 33, 98, 41, 41, 41]⟩ : ByteArray) s0_0 t131) else (spec_l20Formed.j0 k a1 t128 s0_0 t131)))) = some (r1, r2) := H
  have A4 := Aside0.mk A40
  clear A40
  have HC5 := Aside0.mk H
  clear H
  go_enter Try.func71, Try.ntmps71
  go_upto_block 0 with (first | ((with_reducible refine gate_callee (f := 117) rfl ?_); refine goesL_ (some 8) rfl rfl Try.func117 (by kernel_rfl) rfl #[.pointer (some ⟨g, 0, none⟩), .int .i64 3] rfl (by (try simp only [List.map_toArray, List.map_cons, List.map_nil]); first | done | rfl | (simp only [List.length_drop, List.length_take]; rfl)) ?_; (with_reducible refine (spec_l20Formula.calls k g s0_0 s0_1 3 t128 t129 w0 _ ?side1 ?side2 A3.out).mono ?_); (case side1 => repeat (first | (with_reducible first | exact HI0.out | apply IsS87.alloc | apply IsS87.drewN | apply IsS87.drew | apply IsS87.set_1) | exact HI0.out)); (case side2 => repeat (first | (with_reducible first | exact HB.out | apply below_alloc | apply pw_below_drewN | apply below_drew1 | refine below_set ?_ (IsS87.ge HI0.out)) | exact HB.out)); rintro e w6 ⟨rfl, hi, hb, hk⟩; refine ⟨_, rfl, ?_⟩; have n0_ := Aside0.mk (KeepBut.trans (by repeat (first | (with_reducible first | exact HK.out | apply KeepBut.set_ | apply keep_drewN | apply keep_drew | apply keep_alloc) | exact HK.out)) hk (.inl rfl)); have n1_ := Aside0.mk (hb); have n2_ := Aside0.mk (hi); clear HK; clear HB; clear HI0; have HK := n0_; have HB := n1_; have HI0 := n2_; clear n0_ n1_ n2_; (try clear hb); (try clear hb2); (try clear hk); (try clear hi)) | ((with_reducible refine gate_callee (f := 103) rfl ?_); refine goesL_ (some 10) rfl rfl Try.func103 (by kernel_rfl) rfl #[.pointer (some ⟨g, 0, none⟩), .int .i64 8] rfl (by (try simp only [List.map_toArray, List.map_cons, List.map_nil]); first | done | rfl | (simp only [List.length_drop, List.length_take]; rfl)) ?_; (with_reducible refine (spec_l20Rd_pick.calls k g s0_0 t129 8 t130 t131 w0 _ ?side1 ?side2 A4.out).mono ?_); (case side1 => repeat (first | (with_reducible first | exact HI0.out | apply IsS87.alloc | apply IsS87.drewN | apply IsS87.drew | apply IsS87.set_1) | exact HI0.out)); (case side2 => repeat (first | (with_reducible first | exact HB.out | apply below_alloc | apply pw_below_drewN | apply below_drew1 | refine below_set ?_ (IsS87.ge HI0.out)) | exact HB.out)); rintro e w7 ⟨rfl, hi, hb, hk⟩; refine ⟨_, rfl, ?_⟩; have n0_ := Aside0.mk (KeepBut.trans (by repeat (first | (with_reducible first | exact HK.out | apply KeepBut.set_ | apply keep_drewN | apply keep_drew | apply keep_alloc) | exact HK.out)) hk (.inl rfl)); have n1_ := Aside0.mk (hb); have n2_ := Aside0.mk (hi); clear HK; clear HB; clear HI0; have HK := n0_; have HB := n1_; have HI0 := n2_; clear n0_ n1_ n2_; (try clear hb); (try clear hb2); (try clear hk); (try clear hi)))
  (try simp only [Act.put, List.setIfInBounds_toArray, List.set_cons_zero, List.set_cons_succ])
  go_cut [5] (fun v5 wc => ∃ (kq : Nat) (x5_4 : ByteArray), v5 = .string x5_4 ∧ Aside0 (spec_l20Formed.j0 kq a1 x5_4 s0_0 t131 = some (r1, r2)) ∧ Aside0 (kq ≤ k) ∧ Aside0 (IsS87 w0 wc g s0_0 t131) ∧ Aside0 (KeepBut w wc g none) ∧ Aside0 (Below w0.heap.size w0 wc))
  case first =>
    have H := HC5.out
    clear HC5
    by_cases c8 : t130 = 0
    · rw [if_pos c8] at H
      have c8b0 : (t130 == 0) = true := beq_iff_eq.mpr c8
      have c8b1 : (t130 != 0) = false := bne_eq_false_iff_eq.mpr c8
      clear c8
      (first | rw [c8b0] | (simp only [i64_w, i32_w]; rw [c8b0]) | skip)
      have H' := Aside0.mk H
      clear H
      go_wp2
      go_meet
      case rel => exact ⟨_, ((⟨#[40, 33, 97, 124, 40, 97, 38, 40, 33, 97, 124, 98, 41, 41, 41]⟩ : ByteArray)), (by first | rfl | (simp; done) | (simp [*]; done)), H', ⟨by first | omega | exact Nat.le_refl _⟩, ⟨by repeat (first | (with_reducible first | exact HI0.out | apply IsS87.alloc | apply IsS87.drewN | apply IsS87.drew | apply IsS87.set_1) | exact HI0.out)⟩, ⟨by repeat (first | (with_reducible first | exact HK.out | apply KeepBut.set_ | apply keep_drewN | apply keep_drew | apply keep_alloc) | exact HK.out)⟩, ⟨by repeat (first | (with_reducible first | exact HB.out | apply below_alloc | apply pw_below_drewN | apply below_drew1 | refine below_set ?_ (IsS87.ge HI0.out)) | exact HB.out)⟩⟩
    · rw [if_neg c8] at H
      have c8b0 : (t130 == 0) = false := beq_eq_false_iff_ne.mpr c8
      have c8b1 : (t130 != 0) = true := bne_iff_ne.mpr c8
      (first | rw [c8b0] | (simp only [i64_w, i32_w]; rw [c8b0]) | skip)
      by_cases c9 : t130 = 1
      · rw [if_pos c9] at H
        have c9b0 : (t130 == 1) = true := beq_iff_eq.mpr c9
        have c9b1 : (t130 != 1) = false := bne_eq_false_iff_eq.mpr c9
        clear c9
        have H' := Aside0.mk H
        clear H
        go_wp2
        go_meet
        case rel => exact ⟨_, ((⟨#[40, 97, 124, 33, 97, 41]⟩ : ByteArray)), (by first | rfl | (simp; done) | (simp [*]; done)), H', ⟨by first | omega | exact Nat.le_refl _⟩, ⟨by repeat (first | (with_reducible first | exact HI0.out | apply IsS87.alloc | apply IsS87.drewN | apply IsS87.drew | apply IsS87.set_1) | exact HI0.out)⟩, ⟨by repeat (first | (with_reducible first | exact HK.out | apply KeepBut.set_ | apply keep_drewN | apply keep_drew | apply keep_alloc) | exact HK.out)⟩, ⟨by repeat (first | (with_reducible first | exact HB.out | apply below_alloc | apply pw_below_drewN | apply below_drew1 | refine below_set ?_ (IsS87.ge HI0.out)) | exact HB.out)⟩⟩
      · rw [if_neg c9] at H
        have c9b0 : (t130 == 1) = false := beq_eq_false_iff_ne.mpr c9
        have c9b1 : (t130 != 1) = true := bne_iff_ne.mpr c9
        by_cases c10 : t130 = 2
        · rw [if_pos c10] at H
          have c10b0 : (t130 == 2) = true := beq_iff_eq.mpr c10
          have c10b1 : (t130 != 2) = false := bne_eq_false_iff_eq.mpr c10
          clear c10
          have H' := Aside0.mk H
          clear H
          go_wp2
          go_meet
          case rel => exact ⟨_, ((⟨#[40, 40, 97, 38, 98, 41, 124, 40, 40, 97, 38, 33, 98, 41, 124, 40, 33, 97, 124, 33, 98, 41, 41, 41]⟩ : ByteArray)), (by first | rfl | (simp; done) | (simp [*]; done)), H', ⟨by first | omega | exact Nat.le_refl _⟩, ⟨by repeat (first | (with_reducible first | exact HI0.out | apply IsS87.alloc | apply IsS87.drewN | apply IsS87.drew | apply IsS87.set_1) | exact HI0.out)⟩, ⟨by repeat (first | (with_reducible first | exact HK.out | apply KeepBut.set_ | apply keep_drewN | apply keep_drew | apply keep_alloc) | exact HK.out)⟩, ⟨by repeat (first | (with_reducible first | exact HB.out | apply below_alloc | apply pw_below_drewN | apply below_drew1 | refine below_set ?_ (IsS87.ge HI0.out)) | exact HB.out)⟩⟩
        · rw [if_neg c10] at H
          have c10b0 : (t130 == 2) = false := beq_eq_false_iff_ne.mpr c10
          have c10b1 : (t130 != 2) = true := bne_iff_ne.mpr c10
          have H' := Aside0.mk H
          clear H
          go_wp2
          go_meet
          case rel => exact ⟨_, (t128), (by first | rfl | (simp; done) | (simp [*]; done)), H', ⟨by first | omega | exact Nat.le_refl _⟩, ⟨by repeat (first | (with_reducible first | exact HI0.out | apply IsS87.alloc | apply IsS87.drewN | apply IsS87.drew | apply IsS87.set_1) | exact HI0.out)⟩, ⟨by repeat (first | (with_reducible first | exact HK.out | apply KeepBut.set_ | apply keep_drewN | apply keep_drew | apply keep_alloc) | exact HK.out)⟩, ⟨by repeat (first | (with_reducible first | exact HB.out | apply below_alloc | apply pw_below_drewN | apply below_drew1 | refine below_set ?_ (IsS87.ge HI0.out)) | exact HB.out)⟩⟩
  case rest =>
    clear HC5
    try clear c1
    try clear p2
    try clear c7
    try clear c8
    try clear c8b0
    try clear c8b1
    try clear c9
    try clear c9b0
    try clear c9b1
    try clear c10
    try clear c10b0
    try clear c10b1
    obtain ⟨kq, x5_4, rfl, HA, HJ4, HI0, HK, HB⟩ := hcut
    cases kq with
    | zero => exact absurd HA.out (by simp [spec_l20Formed.j0])
    | succ kj4 =>
      have H := HA.out
      clear HA
      simp only [spec_l20Formed.j0] at H
      replace H := Option.bind_eq_some_iff.mp H
      obtain ⟨⟨t132, t133⟩, A110, H⟩ := H
      replace H : (if t132 = true then ((spec_l20Rd_pick.f kj4 s0_0 t133 (x5_4.size : Int)).bind fun bt134 => (if 0 ≤ bt134.1 then (if bt134.1 ≤ (x5_4.size : Int) then ((some (([(⟨#[]⟩ : ByteArray), (⟨#[40]⟩ : ByteArray), (⟨#[41]⟩ : ByteArray), (⟨#[100]⟩ : ByteArray), (⟨#[38]⟩ : ByteArray)] : List ByteArray) : List ByteArray)).bind fun y136 => ((spec_l20Rd_pick.f kj4 s0_0 bt134.2 5).bind fun bt139 => (if 0 ≤ bt139.1 then (if bt139.1 < (y136.length : Int) then (if (x5_4.extract 0 (bt134.1 : Int).toNat).size + (rdOf ByteArray.empty y136 bt139.1).size ≤ 9223372036854775807 then (if 0 ≤ (wrap64 (bt134.1 + 1)) then (if (wrap64 (bt134.1 + 1)) ≤ (x5_4.size : Int) then (if ((x5_4.extract 0 (bt134.1 : Int).toNat) ++ (rdOf ByteArray.empty y136 bt139.1)).size + (x5_4.extract ((wrap64 (bt134.1 + 1)) : Int).toNat x5_4.size).size ≤ 9223372036854775807 then (some (((x5_4.extract 0 (bt134.1 : Int).toNat) ++ (rdOf ByteArray.empty y136 bt139.1)) ++ (x5_4.extract ((wrap64 (bt134.1 + 1)) : Int).toNat x5_4.size), bt139.2)) else (none)) else (none)) else (none)) else (none)) else (none)) else (none)))) else (none)) else (none))) else (some (x5_4, t133))) = some (r1, r2) := H
      have A11 := Aside0.mk A110
      clear A110
      by_cases c12 : t132 = true
      · subst c12
        have H1 : ((spec_l20Rd_pick.f kj4 s0_0 t133 (x5_4.size : Int)).bind fun bt134 => (if 0 ≤ bt134.1 then (if bt134.1 ≤ (x5_4.size : Int) then ((some (([(⟨#[]⟩ : ByteArray), (⟨#[40]⟩ : ByteArray), (⟨#[41]⟩ : ByteArray), (⟨#[100]⟩ : ByteArray), (⟨#[38]⟩ : ByteArray)] : List ByteArray) : List ByteArray)).bind fun y136 => ((spec_l20Rd_pick.f kj4 s0_0 bt134.2 5).bind fun bt139 => (if 0 ≤ bt139.1 then (if bt139.1 < (y136.length : Int) then (if (x5_4.extract 0 (bt134.1 : Int).toNat).size + (rdOf ByteArray.empty y136 bt139.1).size ≤ 9223372036854775807 then (if 0 ≤ (wrap64 (bt134.1 + 1)) then (if (wrap64 (bt134.1 + 1)) ≤ (x5_4.size : Int) then (if ((x5_4.extract 0 (bt134.1 : Int).toNat) ++ (rdOf ByteArray.empty y136 bt139.1)).size + (x5_4.extract ((wrap64 (bt134.1 + 1)) : Int).toNat x5_4.size).size ≤ 9223372036854775807 then (some (((x5_4.extract 0 (bt134.1 : Int).toNat) ++ (rdOf ByteArray.empty y136 bt139.1)) ++ (x5_4.extract ((wrap64 (bt134.1 + 1)) : Int).toNat x5_4.size), bt139.2)) else (none)) else (none)) else (none)) else (none)) else (none)) else (none)))) else (none)) else (none))) = some (r1, r2) := by rw [if_pos rfl] at H; exact H
        clear H
        have H := H1
        clear H1
        replace H := Option.bind_eq_some_iff.mp H
        obtain ⟨⟨t134, t135⟩, A130, H⟩ := H
        replace H : (if 0 ≤ t134 then (if t134 ≤ (x5_4.size : Int) then ((some (([(⟨#[]⟩ : ByteArray), (⟨#[40]⟩ : ByteArray), (⟨#[41]⟩ : ByteArray), (⟨#[100]⟩ : ByteArray), (⟨#[38]⟩ : ByteArray)] : List ByteArray) : List ByteArray)).bind fun y136 => ((spec_l20Rd_pick.f kj4 s0_0 t135 5).bind fun bt139 => (if 0 ≤ bt139.1 then (if bt139.1 < (y136.length : Int) then (if (x5_4.extract 0 (t134 : Int).toNat).size + (rdOf ByteArray.empty y136 bt139.1).size ≤ 9223372036854775807 then (if 0 ≤ (wrap64 (t134 + 1)) then (if (wrap64 (t134 + 1)) ≤ (x5_4.size : Int) then (if ((x5_4.extract 0 (t134 : Int).toNat) ++ (rdOf ByteArray.empty y136 bt139.1)).size + (x5_4.extract ((wrap64 (t134 + 1)) : Int).toNat x5_4.size).size ≤ 9223372036854775807 then (some (((x5_4.extract 0 (t134 : Int).toNat) ++ (rdOf ByteArray.empty y136 bt139.1)) ++ (x5_4.extract ((wrap64 (t134 + 1)) : Int).toNat x5_4.size), bt139.2)) else (none)) else (none)) else (none)) else (none)) else (none)) else (none)))) else (none)) else (none)) = some (r1, r2) := H
        have A13 := Aside0.mk A130
        clear A130
        by_cases c14 : 0 ≤ t134
        · rw [if_pos c14] at H
          have c14b0 := eq_true c14
          have c14b1 : decide (0 ≤ t134) = true := decide_eq_true c14
          clear c14
          by_cases c15 : t134 ≤ (x5_4.size : Int)
          · rw [if_pos c15] at H
            have c15b0 := eq_true c15
            have c15b1 : decide (t134 ≤ (x5_4.size : Int)) = true := decide_eq_true c15
            clear c15
            obtain ⟨y136, hy136⟩ : ∃ y_ : List ByteArray, y_ = (([(⟨#[]⟩ : ByteArray), (⟨#[40]⟩ : ByteArray), (⟨#[41]⟩ : ByteArray), (⟨#[100]⟩ : ByteArray), (⟨#[38]⟩ : ByteArray)] : List ByteArray)) := ⟨_, rfl⟩
            replace H : ((spec_l20Rd_pick.f kj4 s0_0 t135 5).bind fun bt139 => (if 0 ≤ bt139.1 then (if bt139.1 < (y136.length : Int) then (if (x5_4.extract 0 (t134 : Int).toNat).size + (rdOf ByteArray.empty y136 bt139.1).size ≤ 9223372036854775807 then (if 0 ≤ (wrap64 (t134 + 1)) then (if (wrap64 (t134 + 1)) ≤ (x5_4.size : Int) then (if ((x5_4.extract 0 (t134 : Int).toNat) ++ (rdOf ByteArray.empty y136 bt139.1)).size + (x5_4.extract ((wrap64 (t134 + 1)) : Int).toNat x5_4.size).size ≤ 9223372036854775807 then (some (((x5_4.extract 0 (t134 : Int).toNat) ++ (rdOf ByteArray.empty y136 bt139.1)) ++ (x5_4.extract ((wrap64 (t134 + 1)) : Int).toNat x5_4.size), bt139.2)) else (none)) else (none)) else (none)) else (none)) else (none)) else (none))) = some (r1, r2) := by first | (rw [hy136]; with_reducible exact H) | (have H2_ := (Option.bind_some _ _).symm.trans H; rw [hy136]; with_reducible exact H2_) | (have H2_ := (Option.bind_some _ _).symm.trans H; with_reducible exact H2_) | with_reducible exact H | (rw [hy136]; exact H) | exact H
            have Ny136 := Aside0.mk hy136
            clear hy136
            replace H := Option.bind_eq_some_iff.mp H
            obtain ⟨⟨t139, t140⟩, A160, H⟩ := H
            replace H : (if 0 ≤ t139 then (if t139 < (y136.length : Int) then (if (x5_4.extract 0 (t134 : Int).toNat).size + (rdOf ByteArray.empty y136 t139).size ≤ 9223372036854775807 then (if 0 ≤ (wrap64 (t134 + 1)) then (if (wrap64 (t134 + 1)) ≤ (x5_4.size : Int) then (if ((x5_4.extract 0 (t134 : Int).toNat) ++ (rdOf ByteArray.empty y136 t139)).size + (x5_4.extract ((wrap64 (t134 + 1)) : Int).toNat x5_4.size).size ≤ 9223372036854775807 then (some (((x5_4.extract 0 (t134 : Int).toNat) ++ (rdOf ByteArray.empty y136 t139)) ++ (x5_4.extract ((wrap64 (t134 + 1)) : Int).toNat x5_4.size), t140)) else (none)) else (none)) else (none)) else (none)) else (none)) else (none)) = some (r1, r2) := H
            have A16 := Aside0.mk A160
            clear A160
            by_cases c17 : 0 ≤ t139
            · rw [if_pos c17] at H
              have c17b0 : decide (0 ≤ t139) = true := decide_eq_true c17
              clear c17
              by_cases c18 : t139 < (y136.length : Int)
              · rw [if_pos c18] at H
                have c18b0 : decide (t139 < (y136.length : Int)) = true := decide_eq_true c18
                clear c18
                by_cases c19 : (x5_4.extract 0 (t134 : Int).toNat).size + (rdOf ByteArray.empty y136 t139).size ≤ 9223372036854775807
                · rw [if_pos c19] at H
                  have c19b0 := eq_true c19
                  have c19b1 : decide ((x5_4.extract 0 (t134 : Int).toNat).size + (rdOf ByteArray.empty y136 t139).size ≤ 9223372036854775807) = true := decide_eq_true c19
                  try have c19b2 : (9223372036854775807 < (x5_4.extract 0 (t134 : Int).toNat).size + (rdOf ByteArray.empty y136 t139).size) = False := eq_false (Nat.not_lt.2 c19)
                  obtain ⟨ji20, hji20⟩ : ∃ j_ : Int, (wrap64 (t134 + 1)) = j_ := ⟨_, rfl⟩
                  replace H : (if 0 ≤ (ji20) then (if (ji20) ≤ (x5_4.size : Int) then (if ((x5_4.extract 0 (t134 : Int).toNat) ++ (rdOf ByteArray.empty y136 t139)).size + (x5_4.extract ((ji20) : Int).toNat x5_4.size).size ≤ 9223372036854775807 then (some (((x5_4.extract 0 (t134 : Int).toNat) ++ (rdOf ByteArray.empty y136 t139)) ++ (x5_4.extract ((ji20) : Int).toNat x5_4.size), t140)) else (none)) else (none)) else (none)) = some (r1, r2) := by first | (rw [hji20] at H; exact H) | (simp only [hji20] at H ⊢; exact H)
                  (try rw [hji20] at A11)
                  (try rw [hji20] at A13)
                  (try rw [hji20] at A16)
                  have hji20w : (IntKind.i64.wrap (t134 + 1)) = ji20 := (i64_w _).trans hji20
                  by_cases c21 : 0 ≤ (ji20)
                  · rw [if_pos c21] at H
                    have c21b0 := eq_true c21
                    have c21b1 : decide (0 ≤ (ji20)) = true := decide_eq_true c21
                    clear c21
                    by_cases c22 : (ji20) ≤ (x5_4.size : Int)
                    · rw [if_pos c22] at H
                      have c22b0 := eq_true c22
                      have c22b1 : decide ((ji20) ≤ (x5_4.size : Int)) = true := decide_eq_true c22
                      clear c22
                      by_cases c23 : ((x5_4.extract 0 (t134 : Int).toNat) ++ (rdOf ByteArray.empty y136 t139)).size + (x5_4.extract ((ji20) : Int).toNat x5_4.size).size ≤ 9223372036854775807
                      · rw [if_pos c23] at H
                        have c23b0 := eq_true c23
                        have c23b1 : decide (((x5_4.extract 0 (t134 : Int).toNat) ++ (rdOf ByteArray.empty y136 t139)).size + (x5_4.extract ((ji20) : Int).toNat x5_4.size).size ≤ 9223372036854775807) = true := decide_eq_true c23
                        try have c23b2 : (9223372036854775807 < ((x5_4.extract 0 (t134 : Int).toNat) ++ (rdOf ByteArray.empty y136 t139)).size + (x5_4.extract ((ji20) : Int).toNat x5_4.size).size) = False := eq_false (Nat.not_lt.2 c23)
                        simp only [Option.some.injEq, Prod.mk.injEq] at H
                        obtain ⟨rfl, rfl⟩ := H
                        try go_wp2_with (first | ((with_reducible refine gate_callee (f := 118) rfl ?_); refine goesL_ (some 19) rfl rfl Try.func118 (by kernel_rfl) rfl #[.pointer (some ⟨g, 0, none⟩), .int .i64 a1] rfl (by (try simp only [List.map_toArray, List.map_cons, List.map_nil]); first | done | rfl | (simp only [List.length_drop, List.length_take]; rfl)) ?_; (with_reducible refine (spec_l20Rd_odd.calls kj4 g s0_0 t131 a1 true t133 w0 _ ?side1 ?side2 A11.out).mono ?_); (case side1 => repeat (first | (with_reducible first | exact HI0.out | apply IsS87.alloc | apply IsS87.drewN | apply IsS87.drew | apply IsS87.set_1) | exact HI0.out)); (case side2 => repeat (first | (with_reducible first | exact HB.out | apply below_alloc | apply pw_below_drewN | apply below_drew1 | refine below_set ?_ (IsS87.ge HI0.out)) | exact HB.out)); rintro e w24 ⟨rfl, hi, hb, hk⟩; refine ⟨_, rfl, ?_⟩; have n0_ := Aside0.mk (KeepBut.trans (by repeat (first | (with_reducible first | exact HK.out | apply KeepBut.set_ | apply keep_drewN | apply keep_drew | apply keep_alloc) | exact HK.out)) hk (.inl rfl)); have n1_ := Aside0.mk (hb); have n2_ := Aside0.mk (hi); clear HK; clear HB; clear HI0; have HK := n0_; have HB := n1_; have HI0 := n2_; clear n0_ n1_ n2_; (try clear hb); (try clear hb2); (try clear hk); (try clear hi)) | ((with_reducible refine gate_callee (f := 103) rfl ?_); refine goesL_ (some 23) rfl rfl Try.func103 (by kernel_rfl) rfl #[.pointer (some ⟨g, 0, none⟩), .int .i64 (x5_4.size : Int)] rfl (by (try simp only [List.map_toArray, List.map_cons, List.map_nil]); first | done | rfl | (simp only [List.length_drop, List.length_take]; rfl)) ?_; (with_reducible refine (spec_l20Rd_pick.calls kj4 g s0_0 t133 (x5_4.size : Int) t134 t135 w0 _ ?side1 ?side2 A13.out).mono ?_); (case side1 => repeat (first | (with_reducible first | exact HI0.out | apply IsS87.alloc | apply IsS87.drewN | apply IsS87.drew | apply IsS87.set_1) | exact HI0.out)); (case side2 => repeat (first | (with_reducible first | exact HB.out | apply below_alloc | apply pw_below_drewN | apply below_drew1 | refine below_set ?_ (IsS87.ge HI0.out)) | exact HB.out)); rintro e w25 ⟨rfl, hi, hb, hk⟩; refine ⟨_, rfl, ?_⟩; have n0_ := Aside0.mk (KeepBut.trans (by repeat (first | (with_reducible first | exact HK.out | apply KeepBut.set_ | apply keep_drewN | apply keep_drew | apply keep_alloc) | exact HK.out)) hk (.inl rfl)); have n1_ := Aside0.mk (hb); have n2_ := Aside0.mk (hi); clear HK; clear HB; clear HI0; have HK := n0_; have HB := n1_; have HI0 := n2_; clear n0_ n1_ n2_; (try clear hb); (try clear hb2); (try clear hk); (try clear hi)))
                        have pi141 : (0 ≤ (t139 : Int)) = True := eq_true (of_decide_eq_true (by first | (with_reducible assumption) | assumption))
                        have qi141 : (t139 < (y136.length : Int)) = True := eq_true (of_decide_eq_true (by first | (with_reducible assumption) | assumption))
                        have n0_ := Aside0.mk (IsS87.drew HI0.out)
                        have n1_ := Aside0.mk (keep_drew HK.out)
                        have n2_ := Aside0.mk (below_drew1 HB.out)
                        clear HI0
                        clear HK
                        clear HB
                        have HI0 := n0_
                        have HK := n1_
                        have HB := n2_
                        clear n0_ n1_ n2_
                        refine start_ (n := 15) (S := fun w' => True) (ds := []) #[false, false, false, false, false, false, false, false, false, false, false, false, false, false, false] (by kernel_rfl) rfl rfl trivial (fun hHeld => ?_); refine with_tabW spec_l20Formed.tab11 spec_l20Formed.bits11 (fun HT_ HW_ => ?_)
                        generalize w25.drew = w26 at HI0 HK HB hHeld ⊢
                        refine pure_ (i := 0) (N := some 24) (v := ?_) (a' := ?_) #[true, false, false, false, false, false, false, false, false, false, false, false, false, false, false] rfl rfl (any_of HT_.out (by kernel_rfl)) (fun _ _ _ h => h) (Or.inl ⟨by rfl, ?_⟩) ?_ ?_
                        rotate_left
                        · intro w'
                          go_simp
                          with_reducible rfl
                        rotate_left
                        · simp only [Act.put, List.setIfInBounds_toArray, List.set_cons_zero, List.set_cons_succ, i64_w, i32_w]
                          rfl
                        refine pure_ (i := 1) (N := some 25) (v := ?_) (a' := ?_) #[true, true, false, false, false, false, false, false, false, false, false, false, false, false, false] rfl rfl (any_of HT_.out (by kernel_rfl)) (fun _ _ _ h => h) (Or.inl ⟨by rfl, ?_⟩) ?_ ?_
                        rotate_left
                        · intro w'
                          go_simp
                          with_reducible rfl
                        rotate_left
                        · simp only [Act.put, List.setIfInBounds_toArray, List.set_cons_zero, List.set_cons_succ, i64_w, i32_w]
                          rfl
                        refine pure_ (i := 4) (N := some 28) (v := ?_) (a' := ?_) #[true, true, false, false, true, false, false, false, false, false, false, false, false, false, false] rfl rfl (any_of HT_.out (by kernel_rfl)) (fun _ _ _ h => h) (Or.inl ⟨by rfl, ?_⟩) ?_ ?_
                        rotate_left
                        · intro w'
                          go_simp
                          with_reducible rfl
                        rotate_left
                        · simp only [Act.put, List.setIfInBounds_toArray, List.set_cons_zero, List.set_cons_succ, i64_w, i32_w]
                          rfl
                        refine pure_ (i := 9) (N := some 33) (v := ?_) (a' := ?_) #[true, true, false, false, true, false, false, false, false, true, false, false, false, false, false] rfl rfl (any_of HT_.out (by kernel_rfl)) (fun _ _ _ h => h) (Or.inl ⟨by rfl, ?_⟩) ?_ ?_
                        rotate_left
                        · intro w'
                          go_simp
                          with_reducible rfl
                        rotate_left
                        · simp only [Act.put, List.setIfInBounds_toArray, List.set_cons_zero, List.set_cons_succ, i64_w, i32_w]
                          rfl
                        refine pure_ (i := 10) (N := some 34) (v := ?_) (a' := ?_) #[true, true, false, false, true, false, false, false, false, true, true, false, false, false, false] rfl rfl (any_of HT_.out (by kernel_rfl)) (fun _ _ _ h => h) (Or.inl ⟨by rfl, ?_⟩) ?_ ?_
                        rotate_left
                        · intro w'
                          go_simp
                          with_reducible rfl
                        rotate_left
                        · simp only [Act.put, List.setIfInBounds_toArray, List.set_cons_zero, List.set_cons_succ, i64_w, i32_w]
                          rfl
                        refine inv_at [2, 3, 5, 6, 7, 8, 11, 12, 13, 14] (fun a0_ b a w' => ∃ (v137 : Value) (adz_v137 : Addr) (m6_ : Value), a = putSel a0_ b [(2, 26, .string (x5_4.extract 0 (t134 : Int).toNat)), (3, 27, v137), (5, 29, .int .i64 t139), (6, 30, m6_), (7, 31, .string (rdOf ByteArray.empty y136 t139)), (8, 32, .string ((x5_4.extract 0 (t134 : Int).toNat) ++ (rdOf ByteArray.empty y136 t139))), (11, 35, .int .i64 ji20), (12, 36, .string (x5_4.extract ((ji20) : Int).toNat x5_4.size)), (13, 37, .string (((x5_4.extract 0 (t134 : Int).toNat) ++ (rdOf ByteArray.empty y136 t139)) ++ (x5_4.extract ((ji20) : Int).toNat x5_4.size))), (14, 4, .string (((x5_4.extract 0 (t134 : Int).toNat) ++ (rdOf ByteArray.empty y136 t139)) ++ (x5_4.extract ((ji20) : Int).toNat x5_4.size)))] ∧ (b 5 = false → IsS87 w0 w' g s0_0 t135) ∧ (KeepBut w w' g none) ∧ (Below w0.heap.size w0 w') ∧ (b 3 = true → Kd.R Kd.string 9 w' w.heap.size (fun _ => True) v137 y136) ∧ (b 3 = true → ∃ c_, (v137 : Value) = .slice (some adz_v137) y136.length c_) ∧ (b 5 = true → IsS87 w0 w' g s0_0 t140) ∧ (b 6 = true → (m6_ : Value) = .pointer (some (adz_v137.add (t139).toNat)))) HT_.out HW_.out (by kernel_rfl) (by kernel_rfl) ?_ ?_ ?_
                        · exact ⟨.bool false, ⟨0, 0, none⟩, .bool false, by simp only [putSel, Bool.false_eq_true, if_false], fun _ => HI0.out, HK.out, HB.out, fun h_ => absurd h_ (by decide), fun h_ => absurd h_ (by decide), fun h_ => absurd h_ (by decide), fun h_ => absurd h_ (by decide)⟩
                        · skip
                          clear HB HI0 HK
                          refine steps_cons ?_ ?_
                          · rintro b a w' ⟨v137, adz_v137, m6_, ha, Q_HI0, Q_HK, Q_HB, Q_HO138, Q_HA_HO138, Q_HI0_e5, Q_X6_⟩ hb_ hon hoff
                            refine ⟨_, rfl, fun K hK => ?_⟩
                            have e24 : a.tmps[24]? = some (.string x5_4) := by rw [ha]; exact (putSel_off rfl).trans rfl
                            have e25 : a.tmps[25]? = some (.int .i64 t134) := by rw [ha]; exact (putSel_off rfl).trans rfl
                            replace ha := Aside0.mk ha
                            have HK := Aside0.mk Q_HK
                            have HB := Aside0.mk Q_HB
                            refine value_ (w1 := w') (v := .string (x5_4.extract 0 (t134 : Int).toNat)) (by rfl) rfl ?_ ?_
                            · go_simp
                              (try simp only [i64_w])
                              first | rfl | (have e1_ : (⟨#[40]⟩ : ByteArray).size = 1 := rfl; have e2_ : (⟨#[41]⟩ : ByteArray).size = 1 := rfl; have e3_ : (⟨#[33]⟩ : ByteArray).size = 1 := rfl; simp only [ByteArray.size_append, ByteArray.size_extract, decide_eq_true_eq] at *; omega) | skip
                            refine hK.out _ _ ⟨v137, adz_v137, m6_, (by rw [ha.out]; exact putSel_upk 0 hb_ rfl rfl rfl), Q_HI0, Q_HK, Q_HB, Q_HO138, Q_HA_HO138, Q_HI0_e5, Q_X6_⟩
                          refine steps_cons ?_ ?_
                          · rintro b a w' ⟨v137, adz_v137, m6_, ha, Q_HI0, Q_HK, Q_HB, Q_HO138, Q_HA_HO138, Q_HI0_e5, Q_X6_⟩ hb_ hon hoff
                            refine ⟨_, rfl, fun K hK => ?_⟩
                            replace ha := Aside0.mk ha
                            have HK := Aside0.mk Q_HK
                            have HB := Aside0.mk Q_HB
                            refine Kd.R_lit_step Kd.string _ 9 ?hg (N := 27) ?hd (xs := ([(⟨#[]⟩ : ByteArray), (⟨#[40]⟩ : ByteArray), (⟨#[41]⟩ : ByteArray), (⟨#[100]⟩ : ByteArray), (⟨#[38]⟩ : ByteArray)] : List ByteArray)) (inner := [.string (⟨#[]⟩ : ByteArray), .string (⟨#[40]⟩ : ByteArray), .string (⟨#[41]⟩ : ByteArray), .string (⟨#[100]⟩ : ByteArray), .string (⟨#[38]⟩ : ByteArray)]) (ok := fun _ => True) (okp := fun _ => True) ?hr ?hp (fun _ hk => hk) trivial (Below.refl _ _) (Nat.le_refl _) (by simp) ?_; (case hd => rfl); (case hg => rfl); (case hr => first | (go_simp; done) | (go_simp; rfl)); (case hp => exact (Reps.one (show Kd.M Kd.string _ _ _ (⟨#[]⟩ : ByteArray) [.string (⟨#[]⟩ : ByteArray)] from rfl) (Reps.one (show Kd.M Kd.string _ _ _ (⟨#[40]⟩ : ByteArray) [.string (⟨#[40]⟩ : ByteArray)] from rfl) (Reps.one (show Kd.M Kd.string _ _ _ (⟨#[41]⟩ : ByteArray) [.string (⟨#[41]⟩ : ByteArray)] from rfl) (Reps.one (show Kd.M Kd.string _ _ _ (⟨#[100]⟩ : ByteArray) [.string (⟨#[100]⟩ : ByteArray)] from rfl) (Reps.one (show Kd.M Kd.string _ _ _ (⟨#[38]⟩ : ByteArray) [.string (⟨#[38]⟩ : ByteArray)] from rfl) (Reps.none _ _)))))))
                            intro v137 w27 ho28 hb hg_ hnew_
                            clear hg_ hnew_
                            (first | rw [← Ny136.out] at ho28 | (simp only [Int.reduceToNat] at ho28; rw [← Ny136.out] at ho28))
                            have n0_ := Aside0.mk (Kd.R_lower ho28 (keep_size (w := w) (g := g) (row := none) (by repeat (first | (with_reducible first | exact HK.out | apply KeepBut.set_ | apply keep_drewN | apply keep_drew | apply keep_alloc) | exact HK.out))))
                            have n2_ := Aside0.mk (KeepBut.trans (by repeat (first | (with_reducible first | exact HK.out | apply KeepBut.set_ | apply keep_drewN | apply keep_drew | apply keep_alloc) | exact HK.out)) (KeepBut.of_below hb g none) (.inl rfl))
                            have n3_ := Aside0.mk (below_step (by repeat (first | (with_reducible first | exact HB.out | apply below_alloc | apply pw_below_drewN | apply below_drew1) | exact HB.out)) hb)
                            have z_HI0 := fun (h0_ : b 5 = false) => (show IsS87 w0 w27 g s0_0 t135 from by first | exact (IsS87.below (by repeat (first | (with_reducible first | exact (Q_HI0 h0_) | apply IsS87.alloc | apply IsS87.drewN | apply IsS87.drew | apply IsS87.set_1) | exact (Q_HI0 h0_))) hb))
                            have z_HI0_e5 := fun (h0_ : b 5 = true) => (show IsS87 w0 w27 g s0_0 t140 from by first | exact (IsS87.below (by repeat (first | (with_reducible first | exact (Q_HI0_e5 h0_) | apply IsS87.alloc | apply IsS87.drewN | apply IsS87.drew | apply IsS87.set_1) | exact (Q_HI0_e5 h0_))) hb))
                            clear HK
                            clear HB
                            have HO138 := n0_
                            have HK := n2_
                            have HB := n3_
                            clear n0_ n2_ n3_
                            clear hb ho28
                            obtain ⟨Ao29, co29, eo29⟩ := Kd.R_slice HO138.out
                            subst eo29
                            obtain ⟨ado29, fo29, _⟩ := Kd.at_string (Kd.R_reads' HO138.out).2.2 0 (by decide) (by rw [Ny136.out]; simp)
                            cases fo29
                            refine hK.out _ _ ⟨.slice (some ado29) y136.length co29, ado29, m6_, (by rw [ha.out]; exact putSel_upk 1 hb_ rfl rfl rfl), z_HI0, (by repeat (first | (with_reducible first | exact HK.out | apply KeepBut.set_ | apply keep_drewN | apply keep_drew | apply keep_alloc) | exact HK.out)), (by repeat (first | (with_reducible first | exact HB.out | apply below_alloc | apply pw_below_drewN | apply below_drew1) | exact HB.out)), fun _ => (by (with_reducible repeat (first | apply Kd.R_alloc | apply Kd.R_drewN | apply Kd.R_drew)); exact HO138.out), fun _ => ⟨_, rfl⟩, z_HI0_e5, fun h0_ => absurd ((hoff 6 (by kernel_rfl)).symm.trans h0_) (by decide)⟩
                          refine steps_cons ?_ ?_
                          · rintro b a w' ⟨v137, adz_v137, m6_, ha, Q_HI0, Q_HK, Q_HB, Q_HO138, Q_HA_HO138, Q_HI0_e5, Q_X6_⟩ hb_ hon hoff
                            refine ⟨_, rfl, fun K hK => ?_⟩
                            have e28 : a.tmps[28]? = some (.pointer (some ⟨g, 0, none⟩)) := by rw [ha]; exact (putSel_off rfl).trans rfl
                            replace ha := Aside0.mk ha
                            have HI0 := Aside0.mk (Q_HI0 hb_)
                            have HK := Aside0.mk Q_HK
                            have HB := Aside0.mk Q_HB
                            refine goes_ Try.func103 (by kernel_rfl) rfl #[.pointer (some ⟨g, 0, none⟩), .int .i64 5] (by rfl) rfl rfl (by first | (simp only [List.map_toArray, List.map_cons, List.map_nil, Act.eval, Array.getD_eq_getD_getElem?, Option.getD_some, e28]; done) | (simp only [List.map_toArray, List.map_cons, List.map_nil, Act.eval, Array.getD_eq_getD_getElem?, Option.getD_some, e28]; rfl)) ?_
                            with_reducible refine (spec_l20Rd_pick.calls kj4 g s0_0 t135 5 t139 t140 w0 _ ?side1 ?side2 A16.out).mono ?_
                            (case side1 => repeat (first | (with_reducible first | exact HI0.out | apply IsS87.alloc | apply IsS87.drewN | apply IsS87.drew | apply IsS87.set_1) | exact HI0.out))
                            (case side2 => repeat (first | (with_reducible first | exact HB.out | apply below_alloc | apply pw_below_drewN | apply below_drew1 | refine below_set ?_ (IsS87.ge HI0.out)) | exact HB.out))
                            rintro e w27 ⟨rfl, hi, hb, hk⟩
                            refine ⟨_, rfl, ?_⟩
                            have n0_ := Aside0.mk (KeepBut.trans (by repeat (first | (with_reducible first | exact HK.out | apply KeepBut.set_ | apply keep_drewN | apply keep_drew | apply keep_alloc) | exact HK.out)) hk (.inl rfl))
                            have n1_ := Aside0.mk (hb)
                            have n2_ := Aside0.mk (hi)
                            have z_HO138 := fun (h0_ : b 3 = true) => (show Kd.R Kd.string 9 w27 w.heap.size (fun _ => True) v137 y136 from by first | exact (Kd.R_mono (Kd.R_keep (IsS87.apart (show IsS87 w0 _ g s0_0 t135 from by repeat (first | (with_reducible first | exact HI0.out | apply IsS87.alloc | apply IsS87.drewN | apply IsS87.drew | apply IsS87.set_1) | exact HI0.out)) (by (with_reducible repeat (first | apply Kd.R_alloc | apply Kd.R_drewN | apply Kd.R_drew)); exact (Q_HO138 h0_)) (by decide)) hk (fun _ h => h.2)) (fun _ h => h.1)) | exact Kd.R_mono (Kd.R_mono (Kd.R_keep (IsS87.apart (show IsS87 w0 _ g s0_0 t135 from by repeat (first | (with_reducible first | exact HI0.out | apply IsS87.alloc | apply IsS87.drewN | apply IsS87.drew | apply IsS87.set_1) | exact HI0.out)) (by (with_reducible repeat (first | apply Kd.R_alloc | apply Kd.R_drewN | apply Kd.R_drew)); exact (Q_HO138 h0_)) (by decide)) hk (fun _ h => h.2)) (fun _ h => h.1)) (fun _ h_ => by first | trivial | exact h_ | exact h_.1))
                            clear HK
                            clear HB
                            clear HI0
                            have HK := n0_
                            have HB := n1_
                            have HI0 := n2_
                            clear n0_ n1_ n2_
                            (try clear hb)
                            (try clear hb2)
                            (try clear hk)
                            (try clear hi)
                            refine hK.out _ _ ⟨v137, adz_v137, m6_, (by rw [ha.out]; exact putSel_upk 2 hb_ rfl rfl rfl), fun h0_ => absurd ((up_self b 5).symm.trans h0_) (by decide), (by repeat (first | (with_reducible first | exact HK.out | apply KeepBut.set_ | apply keep_drewN | apply keep_drew | apply keep_alloc) | exact HK.out)), (by repeat (first | (with_reducible first | exact HB.out | apply below_alloc | apply pw_below_drewN | apply below_drew1 | refine below_set ?_ (IsS87.ge HI0.out)) | exact HB.out)), z_HO138, Q_HA_HO138, fun _ => (by repeat (first | (with_reducible first | exact HI0.out | apply IsS87.alloc | apply IsS87.drewN | apply IsS87.drew | apply IsS87.set_1) | exact HI0.out)), fun h0_ => absurd ((hoff 6 (by kernel_rfl)).symm.trans h0_) (by decide)⟩
                          refine steps_cons ?_ ?_
                          · rintro b a w' ⟨v137, adz_v137, m6_, ha, Q_HI0, Q_HK, Q_HB, Q_HO138, Q_HA_HO138, Q_HI0_e5, Q_X6_⟩ hb_ hon hoff
                            refine ⟨_, rfl, fun K hK => ?_⟩
                            have e27 : a.tmps[27]? = some (v137) := by rw [ha]; exact putSel_on (e := (3, 27, v137)) 1 rfl rfl (hon 3 (by kernel_rfl)) rfl
                            have e29 : a.tmps[29]? = some (.int .i64 t139) := by rw [ha]; exact putSel_on (e := (5, 29, .int .i64 t139)) 2 rfl rfl (hon 5 (by kernel_rfl)) rfl
                            replace ha := Aside0.mk ha
                            have HK := Aside0.mk Q_HK
                            have HB := Aside0.mk Q_HB
                            have HO138 := Aside0.mk (Q_HO138 (hon 3 (by kernel_rfl)))
                            have HA_HO138 := Aside0.mk (Q_HA_HO138 (hon 3 (by kernel_rfl)))
                            have HI0 := Aside0.mk (Q_HI0_e5 (hon 5 (by kernel_rfl)))
                            obtain ⟨c_, hv_⟩ := HA_HO138.out
                            rw [hv_] at e27
                            refine value_ (w1 := w') (v := .pointer (some (adz_v137.add (t139).toNat))) (by rfl) rfl ?_ ?_
                            · go_simp
                              (try simp only [i64_w])
                              first | rfl | (have e1_ : (⟨#[40]⟩ : ByteArray).size = 1 := rfl; have e2_ : (⟨#[41]⟩ : ByteArray).size = 1 := rfl; have e3_ : (⟨#[33]⟩ : ByteArray).size = 1 := rfl; simp only [ByteArray.size_append, ByteArray.size_extract, decide_eq_true_eq] at *; omega) | skip
                            refine hK.out _ _ ⟨v137, adz_v137, (.pointer (some (adz_v137.add (t139).toNat))), (by rw [ha.out]; exact putSel_upk 3 hb_ rfl rfl rfl), fun h0_ => absurd ((hon 5 (by kernel_rfl)).symm.trans h0_) (by decide), Q_HK, Q_HB, Q_HO138, Q_HA_HO138, Q_HI0_e5, fun _ => rfl⟩
                          refine steps_cons ?_ ?_
                          · rintro b a w' ⟨v137, adz_v137, m6_, ha, Q_HI0, Q_HK, Q_HB, Q_HO138, Q_HA_HO138, Q_HI0_e5, Q_X6_⟩ hb_ hon hoff
                            refine ⟨_, rfl, fun K hK => ?_⟩
                            have e30 : a.tmps[30]? = some (m6_) := by rw [ha]; exact putSel_on (e := (6, 30, m6_)) 3 rfl rfl (hon 6 (by kernel_rfl)) rfl
                            rw [Q_X6_ (hon 6 (by kernel_rfl))] at e30
                            replace ha := Aside0.mk ha
                            have HK := Aside0.mk Q_HK
                            have HB := Aside0.mk Q_HB
                            have HO138 := Aside0.mk (Q_HO138 (hon 3 (by kernel_rfl)))
                            have HA_HO138 := Aside0.mk (Q_HA_HO138 (hon 3 (by kernel_rfl)))
                            have HI0 := Aside0.mk (Q_HI0_e5 (hon 5 (by kernel_rfl)))
                            obtain ⟨c_, hv_⟩ := HA_HO138.out
                            have hF_ := HO138.out
                            rw [hv_] at hF_
                            obtain ⟨ad_, ea_, hx_⟩ := Kd.at_string (Kd.R_reads' hF_).2.2 t139 (of_eq_true pi141) (of_eq_true qi141)
                            cases ea_
                            refine value_ (w1 := w') (v := .string (rdOf ByteArray.empty y136 t139)) (by rfl) rfl ?_ ?_
                            · go_simp
                              (try simp only [i64_w])
                              first | rfl | (have e1_ : (⟨#[40]⟩ : ByteArray).size = 1 := rfl; have e2_ : (⟨#[41]⟩ : ByteArray).size = 1 := rfl; have e3_ : (⟨#[33]⟩ : ByteArray).size = 1 := rfl; simp only [ByteArray.size_append, ByteArray.size_extract, decide_eq_true_eq] at *; omega) | skip
                            refine hK.out _ _ ⟨v137, adz_v137, m6_, (by rw [ha.out]; exact putSel_upk 4 hb_ rfl rfl rfl), fun h0_ => absurd ((hon 5 (by kernel_rfl)).symm.trans h0_) (by decide), Q_HK, Q_HB, Q_HO138, Q_HA_HO138, Q_HI0_e5, Q_X6_⟩
                          refine steps_cons ?_ ?_
                          · rintro b a w' ⟨v137, adz_v137, m6_, ha, Q_HI0, Q_HK, Q_HB, Q_HO138, Q_HA_HO138, Q_HI0_e5, Q_X6_⟩ hb_ hon hoff
                            refine ⟨_, rfl, fun K hK => ?_⟩
                            have e26 : a.tmps[26]? = some (.string (x5_4.extract 0 (t134 : Int).toNat)) := by rw [ha]; exact putSel_on (e := (2, 26, .string (x5_4.extract 0 (t134 : Int).toNat))) 0 rfl rfl (hon 2 (by kernel_rfl)) rfl
                            have e31 : a.tmps[31]? = some (.string (rdOf ByteArray.empty y136 t139)) := by rw [ha]; exact putSel_on (e := (7, 31, .string (rdOf ByteArray.empty y136 t139))) 4 rfl rfl (hon 7 (by kernel_rfl)) rfl
                            replace ha := Aside0.mk ha
                            have HK := Aside0.mk Q_HK
                            have HB := Aside0.mk Q_HB
                            have HO138 := Aside0.mk (Q_HO138 (hon 3 (by kernel_rfl)))
                            have HA_HO138 := Aside0.mk (Q_HA_HO138 (hon 3 (by kernel_rfl)))
                            have HI0 := Aside0.mk (Q_HI0_e5 (hon 5 (by kernel_rfl)))
                            refine value_ (w1 := w') (v := .string ((x5_4.extract 0 (t134 : Int).toNat) ++ (rdOf ByteArray.empty y136 t139))) (by rfl) rfl ?_ ?_
                            · go_simp
                              (try simp only [i64_w])
                              first | rfl | (have e1_ : (⟨#[40]⟩ : ByteArray).size = 1 := rfl; have e2_ : (⟨#[41]⟩ : ByteArray).size = 1 := rfl; have e3_ : (⟨#[33]⟩ : ByteArray).size = 1 := rfl; simp only [ByteArray.size_append, ByteArray.size_extract, decide_eq_true_eq] at *; omega) | skip
                            refine hK.out _ _ ⟨v137, adz_v137, m6_, (by rw [ha.out]; exact putSel_upk 5 hb_ rfl rfl rfl), fun h0_ => absurd ((hon 5 (by kernel_rfl)).symm.trans h0_) (by decide), Q_HK, Q_HB, Q_HO138, Q_HA_HO138, Q_HI0_e5, Q_X6_⟩
                          refine steps_cons ?_ ?_
                          · rintro b a w' ⟨v137, adz_v137, m6_, ha, Q_HI0, Q_HK, Q_HB, Q_HO138, Q_HA_HO138, Q_HI0_e5, Q_X6_⟩ hb_ hon hoff
                            refine ⟨_, rfl, fun K hK => ?_⟩
                            have e34 : a.tmps[34]? = some (.int .i64 t134) := by rw [ha]; exact (putSel_off rfl).trans rfl
                            replace ha := Aside0.mk ha
                            have HK := Aside0.mk Q_HK
                            have HB := Aside0.mk Q_HB
                            refine value_ (w1 := w') (v := .int .i64 ji20) (by rfl) rfl ?_ ?_
                            · go_simp
                              (try simp only [i64_w])
                              first | rfl | (have e1_ : (⟨#[40]⟩ : ByteArray).size = 1 := rfl; have e2_ : (⟨#[41]⟩ : ByteArray).size = 1 := rfl; have e3_ : (⟨#[33]⟩ : ByteArray).size = 1 := rfl; simp only [ByteArray.size_append, ByteArray.size_extract, decide_eq_true_eq] at *; omega) | skip
                            refine hK.out _ _ ⟨v137, adz_v137, m6_, (by rw [ha.out]; exact putSel_upk 6 hb_ rfl rfl rfl), Q_HI0, Q_HK, Q_HB, Q_HO138, Q_HA_HO138, Q_HI0_e5, Q_X6_⟩
                          refine steps_cons ?_ ?_
                          · rintro b a w' ⟨v137, adz_v137, m6_, ha, Q_HI0, Q_HK, Q_HB, Q_HO138, Q_HA_HO138, Q_HI0_e5, Q_X6_⟩ hb_ hon hoff
                            refine ⟨_, rfl, fun K hK => ?_⟩
                            have e33 : a.tmps[33]? = some (.string x5_4) := by rw [ha]; exact (putSel_off rfl).trans rfl
                            have e35 : a.tmps[35]? = some (.int .i64 ji20) := by rw [ha]; exact putSel_on (e := (11, 35, .int .i64 ji20)) 6 rfl rfl (hon 11 (by kernel_rfl)) rfl
                            replace ha := Aside0.mk ha
                            have HK := Aside0.mk Q_HK
                            have HB := Aside0.mk Q_HB
                            refine value_ (w1 := w') (v := .string (x5_4.extract ((ji20) : Int).toNat x5_4.size)) (by rfl) rfl ?_ ?_
                            · go_simp
                              (try simp only [i64_w])
                              first | rfl | (have e1_ : (⟨#[40]⟩ : ByteArray).size = 1 := rfl; have e2_ : (⟨#[41]⟩ : ByteArray).size = 1 := rfl; have e3_ : (⟨#[33]⟩ : ByteArray).size = 1 := rfl; simp only [ByteArray.size_append, ByteArray.size_extract, decide_eq_true_eq] at *; omega) | skip
                            refine hK.out _ _ ⟨v137, adz_v137, m6_, (by rw [ha.out]; exact putSel_upk 7 hb_ rfl rfl rfl), Q_HI0, Q_HK, Q_HB, Q_HO138, Q_HA_HO138, Q_HI0_e5, Q_X6_⟩
                          refine steps_cons ?_ ?_
                          · rintro b a w' ⟨v137, adz_v137, m6_, ha, Q_HI0, Q_HK, Q_HB, Q_HO138, Q_HA_HO138, Q_HI0_e5, Q_X6_⟩ hb_ hon hoff
                            refine ⟨_, rfl, fun K hK => ?_⟩
                            have e32 : a.tmps[32]? = some (.string ((x5_4.extract 0 (t134 : Int).toNat) ++ (rdOf ByteArray.empty y136 t139))) := by rw [ha]; exact putSel_on (e := (8, 32, .string ((x5_4.extract 0 (t134 : Int).toNat) ++ (rdOf ByteArray.empty y136 t139)))) 5 rfl rfl (hon 8 (by kernel_rfl)) rfl
                            have e36 : a.tmps[36]? = some (.string (x5_4.extract ((ji20) : Int).toNat x5_4.size)) := by rw [ha]; exact putSel_on (e := (12, 36, .string (x5_4.extract ((ji20) : Int).toNat x5_4.size))) 7 rfl rfl (hon 12 (by kernel_rfl)) rfl
                            replace ha := Aside0.mk ha
                            have HK := Aside0.mk Q_HK
                            have HB := Aside0.mk Q_HB
                            have HO138 := Aside0.mk (Q_HO138 (hon 3 (by kernel_rfl)))
                            have HA_HO138 := Aside0.mk (Q_HA_HO138 (hon 3 (by kernel_rfl)))
                            have HI0 := Aside0.mk (Q_HI0_e5 (hon 5 (by kernel_rfl)))
                            refine value_ (w1 := w') (v := .string (((x5_4.extract 0 (t134 : Int).toNat) ++ (rdOf ByteArray.empty y136 t139)) ++ (x5_4.extract ((ji20) : Int).toNat x5_4.size))) (by rfl) rfl ?_ ?_
                            · go_simp
                              (try simp only [i64_w])
                              first | rfl | (have e1_ : (⟨#[40]⟩ : ByteArray).size = 1 := rfl; have e2_ : (⟨#[41]⟩ : ByteArray).size = 1 := rfl; have e3_ : (⟨#[33]⟩ : ByteArray).size = 1 := rfl; simp only [ByteArray.size_append, ByteArray.size_extract, decide_eq_true_eq] at *; omega) | skip
                            refine hK.out _ _ ⟨v137, adz_v137, m6_, (by rw [ha.out]; exact putSel_upk 8 hb_ rfl rfl rfl), fun h0_ => absurd ((hon 5 (by kernel_rfl)).symm.trans h0_) (by decide), Q_HK, Q_HB, Q_HO138, Q_HA_HO138, Q_HI0_e5, Q_X6_⟩
                          refine steps_cons ?_ ?_
                          · rintro b a w' ⟨v137, adz_v137, m6_, ha, Q_HI0, Q_HK, Q_HB, Q_HO138, Q_HA_HO138, Q_HI0_e5, Q_X6_⟩ hb_ hon hoff
                            refine ⟨_, rfl, fun K hK => ?_⟩
                            have e37 : a.tmps[37]? = some (.string (((x5_4.extract 0 (t134 : Int).toNat) ++ (rdOf ByteArray.empty y136 t139)) ++ (x5_4.extract ((ji20) : Int).toNat x5_4.size))) := by rw [ha]; exact putSel_on (e := (13, 37, .string (((x5_4.extract 0 (t134 : Int).toNat) ++ (rdOf ByteArray.empty y136 t139)) ++ (x5_4.extract ((ji20) : Int).toNat x5_4.size)))) 8 rfl rfl (hon 13 (by kernel_rfl)) rfl
                            replace ha := Aside0.mk ha
                            have HK := Aside0.mk Q_HK
                            have HB := Aside0.mk Q_HB
                            have HO138 := Aside0.mk (Q_HO138 (hon 3 (by kernel_rfl)))
                            have HA_HO138 := Aside0.mk (Q_HA_HO138 (hon 3 (by kernel_rfl)))
                            have HI0 := Aside0.mk (Q_HI0_e5 (hon 5 (by kernel_rfl)))
                            refine value_ (w1 := w') (v := .string (((x5_4.extract 0 (t134 : Int).toNat) ++ (rdOf ByteArray.empty y136 t139)) ++ (x5_4.extract ((ji20) : Int).toNat x5_4.size))) (by rfl) rfl ?_ ?_
                            · go_simp
                              (try simp only [i64_w])
                              first | rfl | (have e1_ : (⟨#[40]⟩ : ByteArray).size = 1 := rfl; have e2_ : (⟨#[41]⟩ : ByteArray).size = 1 := rfl; have e3_ : (⟨#[33]⟩ : ByteArray).size = 1 := rfl; simp only [ByteArray.size_append, ByteArray.size_extract, decide_eq_true_eq] at *; omega) | skip
                            refine hK.out _ _ ⟨v137, adz_v137, m6_, (by rw [ha.out]; exact putSel_upk 9 hb_ rfl rfl rfl), fun h0_ => absurd ((hon 5 (by kernel_rfl)).symm.trans h0_) (by decide), Q_HK, Q_HB, Q_HO138, Q_HA_HO138, Q_HI0_e5, Q_X6_⟩
                          exact steps_nil
                        rintro b a w31 hall ⟨v137, adz_v137, m6_, ha, Q_HI0, Q_HK, Q_HB, Q_HO138, Q_HA_HO138, Q_HI0_e5, Q_X6_⟩
                        clear HB HI0 HK
                        have hb2_ := hall 2 (by kernel_rfl)
                        have hb3_ := hall 3 (by kernel_rfl)
                        have hb5_ := hall 5 (by kernel_rfl)
                        have hb6_ := hall 6 (by kernel_rfl)
                        have hb7_ := hall 7 (by kernel_rfl)
                        have hb8_ := hall 8 (by kernel_rfl)
                        have hb11_ := hall 11 (by kernel_rfl)
                        have hb12_ := hall 12 (by kernel_rfl)
                        have hb13_ := hall 13 (by kernel_rfl)
                        have hb14_ := hall 14 (by kernel_rfl)
                        subst ha
                        obtain rfl := Q_X6_ hb6_
                        simp only [putSel, hb2_, hb3_, hb5_, hb6_, hb7_, hb8_, hb11_, hb12_, hb13_, hb14_, if_true, Act.put, List.setIfInBounds_toArray, List.set_cons_zero, List.set_cons_succ]
                        clear Q_HI0
                        have HK := Aside0.mk Q_HK
                        clear Q_HK
                        have HB := Aside0.mk Q_HB
                        clear Q_HB
                        have HO138 := Aside0.mk (Q_HO138 hb3_)
                        clear Q_HO138
                        have HA_HO138 := Aside0.mk (Q_HA_HO138 hb3_)
                        clear Q_HA_HO138
                        have HI0 := Aside0.mk (Q_HI0_e5 hb5_)
                        clear Q_HI0_e5
                        clear hall hb2_ hb3_ hb5_ hb6_ hb7_ hb8_ hb11_ hb12_ hb13_ hb14_
                        obtain ⟨co32, eo32⟩ := HA_HO138.out
                        clear HA_HO138
                        subst eo32
                        try go_wp2
                        go_ret
                        exact ⟨by first | rfl | (simp [errW_none, errW_some] <;> rfl) | (simp only [← hji20]; first | rfl | (simp [errW_none, errW_some] <;> rfl)) | (simp [*, errW_none, errW_some] <;> rfl), by repeat (first | (with_reducible first | exact HI0.out | apply IsS87.alloc | apply IsS87.drewN | apply IsS87.drew | apply IsS87.set_1) | exact HI0.out), by repeat (first | (with_reducible first | exact HB.out | apply below_alloc | apply pw_below_drewN | apply below_drew1 | refine below_set ?_ (IsS87.ge HI0.out)) | exact HB.out), by repeat (first | (with_reducible first | exact HK.out | apply KeepBut.set_ | apply keep_drewN | apply keep_drew | apply keep_alloc) | exact HK.out)⟩
                      · rw [if_neg c23] at H
                        exact absurd H (by simp)
                    · rw [if_neg c22] at H
                      exact absurd H (by simp)
                  · rw [if_neg c21] at H
                    exact absurd H (by simp)
                · rw [if_neg c19] at H
                  exact absurd H (by simp)
              · rw [if_neg c18] at H
                exact absurd H (by simp)
            · rw [if_neg c17] at H
              exact absurd H (by simp)
          · rw [if_neg c15] at H
            exact absurd H (by simp)
        · rw [if_neg c14] at H
          exact absurd H (by simp)
      · replace c12 := Bool.eq_false_iff.mpr c12
        subst c12
        have H1 : (some (x5_4, t133)) = some (r1, r2) := by rw [if_neg (show ¬ (false = true) by decide)] at H; exact H
        clear H
        have H := H1
        clear H1
        simp only [Option.some.injEq, Prod.mk.injEq] at H
        obtain ⟨rfl, rfl⟩ := H
        go_wp2_with (first | ((with_reducible refine gate_callee (f := 118) rfl ?_); refine goesL_ (some 19) rfl rfl Try.func118 (by kernel_rfl) rfl #[.pointer (some ⟨g, 0, none⟩), .int .i64 a1] rfl (by (try simp only [List.map_toArray, List.map_cons, List.map_nil]); first | done | rfl | (simp only [List.length_drop, List.length_take]; rfl)) ?_; (with_reducible refine (spec_l20Rd_odd.calls kj4 g s0_0 t131 a1 false t133 w0 _ ?side1 ?side2 A11.out).mono ?_); (case side1 => repeat (first | (with_reducible first | exact HI0.out | apply IsS87.alloc | apply IsS87.drewN | apply IsS87.drew | apply IsS87.set_1) | exact HI0.out)); (case side2 => repeat (first | (with_reducible first | exact HB.out | apply below_alloc | apply pw_below_drewN | apply below_drew1 | refine below_set ?_ (IsS87.ge HI0.out)) | exact HB.out)); rintro e w33 ⟨rfl, hi, hb, hk⟩; refine ⟨_, rfl, ?_⟩; have n0_ := Aside0.mk (KeepBut.trans (by repeat (first | (with_reducible first | exact HK.out | apply KeepBut.set_ | apply keep_drewN | apply keep_drew | apply keep_alloc) | exact HK.out)) hk (.inl rfl)); have n1_ := Aside0.mk (hb); have n2_ := Aside0.mk (hi); clear HK; clear HB; clear HI0; have HK := n0_; have HB := n1_; have HI0 := n2_; clear n0_ n1_ n2_; (try clear hb); (try clear hb2); (try clear hk); (try clear hi)))
        go_ret
        exact ⟨by first | rfl | (simp [errW_none, errW_some] <;> rfl) | (simp [*, errW_none, errW_some] <;> rfl), by repeat (first | (with_reducible first | exact HI0.out | apply IsS87.alloc | apply IsS87.drewN | apply IsS87.drew | apply IsS87.set_1) | exact HI0.out), by repeat (first | (with_reducible first | exact HB.out | apply below_alloc | apply pw_below_drewN | apply below_drew1 | refine below_set ?_ (IsS87.ge HI0.out)) | exact HB.out), by repeat (first | (with_reducible first | exact HK.out | apply KeepBut.set_ | apply keep_drewN | apply keep_drew | apply keep_alloc) | exact HK.out)⟩
end Go.Proofs.Ytdoomkcgdcfmlaa.Print
end
section
namespace Go.Proofs.Ytdoomkcgdcfmlaa.Print
open Go.RowKit Go.Proofs.YtdoomkcgdcfmlaaW.PrintWords Go.Proofs.YtdoomkcgdcfmlaaW.PrintLast Go.Proofs.YtdoomkcgdcfmlaaW.PrintMore
attribute [local go_sem] max2_int min2_int max_two min_two max_three min_three max_four min_four   -- for this text's walks alone
set_option linter.unusedVariables false
set_option linter.unusedSimpArgs false
def spec_l20Open.f (l0 : List Int) : Option (List Int × Int) := if (l0.length : Int) > 2000 then (if 2000 ≤ (l0.length : Int) then (some (l0.take 2000, 0)) else (none)) else (some (l0, 0))
set_option maxHeartbeats 8000000 in
set_option maxRecDepth 100000 in
theorem spec_l20Open.calls (A0 : Option Addr) (c0 : Nat) (l0 : List Int) (r1 : List Int) (r2 : Int) (w0 w : World) (hB : Below w0.heap.size w0 w) (hr0 : Kd.C (Kd.int .u8) w0 A0 l0.length l0) (hc0 : l0.length ≤ c0) (h : spec_l20Open.f l0 = some (r1, r2)) :
    Calls Try.prog 72 #[.slice A0 l0.length c0] w fun e w' => ∃ g_ : Nat, e = .returned (.pointer (some ⟨g_, 0, none⟩)) ∧ IsS87 w0 w' g_ r1 r2 ∧ Below w0.heap.size w0 w' ∧ Below w.heap.size w w' := by
  have hu87 := Try.underlying87
  have HR0 := Aside0.mk hr0
  have HC0 := Aside0.mk hc0
  clear hr0 hc0
  have HBW := Aside0.mk (Below.refl w.heap.size w)
  have HW0 := Aside0.mk hB.size
  have HB := Aside0.mk hB
  clear hB
  have H : (if (l0.length : Int) > 2000 then (if 2000 ≤ (l0.length : Int) then (some (l0.take 2000, 0)) else (none)) else (some (l0, 0))) = some (r1, r2) := h
  clear h
  by_cases c2 : (l0.length : Int) > 2000
  · rw [if_pos c2] at H
    have c2b0 : decide (2000 < (l0.length : Int)) = true := decide_eq_true c2
    have c2b1 : decide (2000 < l0.length) = true := decide_eq_true (by omega)
    clear c2
    by_cases c3 : 2000 ≤ (l0.length : Int)
    · rw [if_pos c3] at H
      have c3b0 := eq_true c3
      have c3b1 : decide (2000 ≤ (l0.length : Int)) = true := decide_eq_true c3
      clear c3
      simp only [Option.some.injEq, Prod.mk.injEq] at H
      obtain ⟨rfl, rfl⟩ := H
      obtain ⟨i04, hi04, _, hsz4, _⟩ := info_parts info5
      obtain ⟨hcut4, hA4, hC4⟩ := print_take_of (P := Try.prog) (Value.int .u8) 0 22 5 .i64 Try.underlying22 hi04 hsz4 A0 c0 l0 2000 (by omega) (of_decide_eq_true (by first | (with_reducible assumption) | assumption)) HC0.out
      have HR142 := Aside0.mk (Kd.C_of_reads (h1 := fun _ => rfl) (hA4 _ (Kd.reads_of_C HR0.out)))
      have HC142 := Aside0.mk hC4
      clear hA4 hC4 hi04 hsz4
      go_enter Try.func72, Try.ntmps72
      go_wp2_with (first | ((with_reducible refine gate_dst (N := 10) rfl ?_); refine box_event ?hg (N := 10) ?hd (cs := #[.slice A0 (l0.take 2000).length c0, .int .i64 0]) (t := 87) ?hr ?_; (case hd => rfl); (case hg => rfl); (case hr => first | (go_simp; done) | (go_simp; rfl)); intro gb143 hg w5 hbox hb; have n0_ := Aside0.mk (below_step HBW.out hb); have n1_ := Aside0.mk (below_step (by repeat (first | (with_reducible first | exact HB.out | apply below_alloc | apply pw_below_drewN | apply below_drew1) | exact HB.out)) hb); have n2_ := Aside0.mk (hbox); have n3_ := Aside0.mk ((by rw [hg]; exact (below_size (by repeat (first | (with_reducible first | exact HBW.out | apply below_alloc | apply pw_below_drewN | apply below_drew1) | exact HBW.out))) : w.heap.size ≤ gb143)); have n4_ := Aside0.mk ((Nat.le_trans HW0.out (by rw [hg]; exact (below_size (by repeat (first | (with_reducible first | exact HBW.out | apply below_alloc | apply pw_below_drewN | apply below_drew1) | exact HBW.out))) : w.heap.size ≤ gb143) : w0.heap.size ≤ gb143)); clear HBW; clear HB; have HBW := n0_; have HB := n1_; have BK143 := n2_; have GW143 := n3_; have GE143 := n4_; clear n0_ n1_ n2_ n3_ n4_; clear hb hbox hg))
      go_ret
      exact ⟨_, rfl, (show IsS87 w0 _ gb143 (l0.take 2000) 0 from ⟨_, _, by (with_reducible repeat (first | refine blk_drewN ?_ _ | refine blk_drew ?_ | refine blk_alloc ?_ _)); exact BK143.out, GE143.out, HR142.out⟩), by repeat (first | (with_reducible first | exact HB.out | apply below_alloc | apply pw_below_drewN | apply below_drew1 | refine below_set ?_ GE143.out) | exact HB.out), by repeat (first | (with_reducible first | exact HBW.out | apply below_alloc | apply pw_below_drewN | apply below_drew1 | refine below_set ?_ GW143.out) | exact HBW.out)⟩
    · rw [if_neg c3] at H
      exact absurd H (by simp)
  · rw [if_neg c2] at H
    have c2b0 : decide (2000 < (l0.length : Int)) = false := decide_eq_false c2
    have c2b1 : decide (2000 < l0.length) = false := decide_eq_false (by omega)
    clear c2
    simp only [Option.some.injEq, Prod.mk.injEq] at H
    obtain ⟨rfl, rfl⟩ := H
    go_enter Try.func72, Try.ntmps72
    go_wp2_with (first | ((with_reducible refine gate_dst (N := 10) rfl ?_); refine box_event ?hg (N := 10) ?hd (cs := #[.slice A0 l0.length c0, .int .i64 0]) (t := 87) ?hr ?_; (case hd => rfl); (case hg => rfl); (case hr => first | (go_simp; done) | (go_simp; rfl)); intro gb144 hg w6 hbox hb; have n0_ := Aside0.mk (below_step HBW.out hb); have n1_ := Aside0.mk (below_step (by repeat (first | (with_reducible first | exact HB.out | apply below_alloc | apply pw_below_drewN | apply below_drew1) | exact HB.out)) hb); have n2_ := Aside0.mk (hbox); have n3_ := Aside0.mk ((by rw [hg]; exact (below_size (by repeat (first | (with_reducible first | exact HBW.out | apply below_alloc | apply pw_below_drewN | apply below_drew1) | exact HBW.out))) : w.heap.size ≤ gb144)); have n4_ := Aside0.mk ((Nat.le_trans HW0.out (by rw [hg]; exact (below_size (by repeat (first | (with_reducible first | exact HBW.out | apply below_alloc | apply pw_below_drewN | apply below_drew1) | exact HBW.out))) : w.heap.size ≤ gb144) : w0.heap.size ≤ gb144)); clear HBW; clear HB; have HBW := n0_; have HB := n1_; have BK144 := n2_; have GW144 := n3_; have GE144 := n4_; clear n0_ n1_ n2_ n3_ n4_; clear hb hbox hg))
    go_ret
    exact ⟨_, rfl, (show IsS87 w0 _ gb144 l0 0 from ⟨_, _, by (with_reducible repeat (first | refine blk_drewN ?_ _ | refine blk_drew ?_ | refine blk_alloc ?_ _)); exact BK144.out, GE144.out, HR0.out⟩), by repeat (first | (with_reducible first | exact HB.out | apply below_alloc | apply pw_below_drewN | apply below_drew1 | refine below_set ?_ GE144.out) | exact HB.out), by repeat (first | (with_reducible first | exact HBW.out | apply below_alloc | apply pw_below_drewN | apply below_drew1 | refine below_set ?_ GW144.out) | exact HBW.out)⟩
end Go.Proofs.Ytdoomkcgdcfmlaa.Print
end
section
namespace Go.Proofs.Ytdoomkcgdcfmlaa.Print
open Go.RowKit Go.Proofs.YtdoomkcgdcfmlaaW.PrintWords Go.Proofs.YtdoomkcgdcfmlaaW.PrintLast Go.Proofs.YtdoomkcgdcfmlaaW.PrintMore
attribute [local go_sem] max2_int min2_int max_two min_two max_three min_three max_four min_four   -- for this text's walks alone
set_option linter.unusedVariables false
set_option linter.unusedSimpArgs false
def spec_DrawFormulaOk.f (k : Nat) (l0 : List Int) : Option (ByteArray) := (spec_l20Open.f l0).bind fun bt145 => ((spec_l20Formed.f k bt145.1 bt145.2 2).bind fun bt148 => (some bt148.1))
set_option maxHeartbeats 8000000 in
set_option maxRecDepth 100000 in
theorem spec_DrawFormulaOk.calls (k : Nat) (A0 : Option Addr) (c0 : Nat) (l0 : List Int) (r : ByteArray) (w : World) (hr0 : Kd.C (Kd.int .u8) w A0 l0.length l0) (hc0 : l0.length ≤ c0) (h : spec_DrawFormulaOk.f k l0 = some r) :
    Calls Try.prog 15 #[.slice A0 l0.length c0] w fun e w' => e = .returned (.string r) ∧ Below w.heap.size w w' := by
  have HR0 := Aside0.mk hr0
  have HC0 := Aside0.mk hc0
  clear hr0 hc0
  have HB := Aside0.mk (Below.refl w.heap.size w)
  have H : ((spec_l20Open.f l0).bind fun bt145 => ((spec_l20Formed.f k bt145.1 bt145.2 2).bind fun bt148 => (some bt148.1))) = some r := h
  clear h
  replace H := Option.bind_eq_some_iff.mp H
  obtain ⟨⟨t145, t146⟩, A20, H⟩ := H
  replace H : ((spec_l20Formed.f k t145 t146 2).bind fun bt148 => (some bt148.1)) = some r := H
  have A2 := Aside0.mk A20
  clear A20
  replace H := Option.bind_eq_some_iff.mp H
  obtain ⟨⟨t148, t149⟩, A30, H⟩ := H
  replace H : (some t148) = some r := H
  have A3 := Aside0.mk A30
  clear A30
  obtain rfl := Option.some.inj H
  go_enter Try.func15, Try.ntmps15
  go_wp2_with (first | ((with_reducible refine gate_callee (f := 72) rfl ?_); refine goesL_ (some 4) rfl rfl Try.func72 (by kernel_rfl) rfl #[.slice A0 l0.length c0] rfl (by (try simp only [List.map_toArray, List.map_cons, List.map_nil]); first | done | rfl | (simp only [List.length_drop, List.length_take]; rfl)) ?_; (with_reducible refine (spec_l20Open.calls _ _ l0 t145 t146 w _ ?side1 ?side2 ?side3 A2.out).mono ?_); (case side1 => repeat (first | (with_reducible first | exact HB.out | apply below_alloc | apply pw_below_drewN | apply below_drew1) | exact HB.out)); (case side2 => exact HR0.out); (case side3 => exact HC0.out); rintro e w4 ⟨g147, rfl, hi, hb, hb2⟩; refine ⟨_, rfl, ?_⟩; have n0_ := Aside0.mk (hb); have n1_ := Aside0.mk (hi); clear HB; have HB := n0_; have HI147 := n1_; clear n0_ n1_; (try clear hb); (try clear hb2); (try clear hk); (try clear hi)) | ((with_reducible refine gate_callee (f := 71) rfl ?_); refine goesL_ (some 5) rfl rfl Try.func71 (by kernel_rfl) rfl #[.pointer (some ⟨g147, 0, none⟩), .int .i64 2] rfl (by (try simp only [List.map_toArray, List.map_cons, List.map_nil]); first | done | rfl | (simp only [List.length_drop, List.length_take]; rfl)) ?_; (with_reducible refine (spec_l20Formed.calls k g147 t145 t146 2 t148 t149 w _ ?side1 ?side2 A3.out).mono ?_); (case side1 => repeat (first | (with_reducible first | exact HI147.out | apply IsS87.alloc | apply IsS87.drewN | apply IsS87.drew | apply IsS87.set_1) | exact HI147.out)); (case side2 => repeat (first | (with_reducible first | exact HB.out | apply below_alloc | apply pw_below_drewN | apply below_drew1 | refine below_set ?_ (IsS87.ge HI147.out)) | exact HB.out)); rintro e w5 ⟨rfl, hi, hb, hk⟩; refine ⟨_, rfl, ?_⟩; have n0_ := Aside0.mk (hb); have n1_ := Aside0.mk (hi); clear HB; clear HI147; have HB := n0_; have HI147 := n1_; clear n0_ n1_; (try clear hb); (try clear hb2); (try clear hk); (try clear hi)))
  go_ret
  exact ⟨by first | rfl | (simp [errW_none, errW_some] <;> rfl) | (simp [*, errW_none, errW_some] <;> rfl), by repeat (first | (with_reducible first | exact HB.out | apply below_alloc | apply pw_below_drewN | apply below_drew1 | refine below_set ?_ (IsS87.ge HI147.out)) | exact HB.out)⟩
end Go.Proofs.Ytdoomkcgdcfmlaa.Print
end
section
namespace Oml
universe u
structure OL (α : Type u) where
  le : α → α → Prop
  meet : α → α → α
  join : α → α → α
  neg : α → α
  bot : α
  le_refl : ∀ a, le a a
  le_antisymm : ∀ a b, le a b → le b a → a = b
  le_trans : ∀ a b c, le a b → le b c → le a c
  meet_l : ∀ a b, le (meet a b) a
  meet_r : ∀ a b, le (meet a b) b
  le_meet : ∀ a b c, le c a → le c b → le c (meet a b)
  join_l : ∀ a b, le a (join a b)
  join_r : ∀ a b, le b (join a b)
  join_le : ∀ a b c, le a c → le b c → le (join a b) c
  neg_neg : ∀ a, neg (neg a) = a
  neg_anti : ∀ a b, le a b → le (neg b) (neg a)
  meet_neg : ∀ a, meet a (neg a) = bot
  bot_le : ∀ a, le bot a
namespace OL
variable {α : Type u} (L : OL α)
def top : α := L.neg L.bot
theorem le_top (a : α) : L.le a L.top := by
  have h := L.neg_anti _ _ (L.bot_le (L.neg a))
  rw [L.neg_neg] at h
  exact h
theorem neg_le_iff (a b : α) : L.le (L.neg a) b ↔ L.le (L.neg b) a := by
  constructor <;> intro h
  · have := L.neg_anti _ _ h; rwa [L.neg_neg] at this
  · have := L.neg_anti _ _ h; rwa [L.neg_neg] at this
theorem join_comm (a b : α) : L.join a b = L.join b a :=
  L.le_antisymm _ _ (L.join_le _ _ _ (L.join_r _ _) (L.join_l _ _)) (L.join_le _ _ _ (L.join_r _ _) (L.join_l _ _))
theorem meet_eq_l (a b : α) : L.meet a b = a ↔ L.le a b := by
  constructor
  · intro h; rw [← h]; exact L.meet_r _ _
  · intro h; exact L.le_antisymm _ _ (L.meet_l _ _) (L.le_meet _ _ _ (L.le_refl _) h)
theorem neg_meet (a b : α) : L.neg (L.meet a b) = L.join (L.neg a) (L.neg b) := by
  apply L.le_antisymm
  · rw [L.neg_le_iff]
    exact L.le_meet _ _ _ (by rw [L.neg_le_iff]; exact L.join_l _ _) (by rw [L.neg_le_iff]; exact L.join_r _ _)
  · exact L.join_le _ _ _ (L.neg_anti _ _ (L.meet_l _ _)) (L.neg_anti _ _ (L.meet_r _ _))
theorem join_neg (a : α) : L.join a (L.neg a) = L.top := by
  have := L.neg_meet a (L.neg a)
  rw [L.meet_neg, L.neg_neg, L.join_comm] at this
  exact this.symm
theorem neg_top : L.neg L.top = L.bot := L.neg_neg _
theorem meet_top (a : α) : L.meet a L.top = a := (L.meet_eq_l _ _).2 (L.le_top _)
def Keeps : Prop := ∀ a b, L.le a b → L.join a (L.meet b (L.neg a)) = b
def C (a b : α) : Prop := L.join (L.meet a b) (L.meet a (L.neg b)) = a
def Split (a b c : α) : Prop := L.meet a (L.join b c) = L.join (L.meet a b) (L.meet a c)
def Boolean : Prop := ∀ a b c, L.Split a b c
variable {L}
theorem Boolean.C (B : L.Boolean) (a b : α) : L.C a b := by
  have := B a b (L.neg b)
  unfold Split at this
  rw [L.join_neg, L.meet_top] at this
  exact this.symm
structure High (L : OL α) (h : α → Nat) : Prop where
  mono : ∀ a b, L.le a b → a ≠ b → h a < h b
  step : ∀ a, h a ≠ 0 → ∃ b, L.le b a ∧ b ≠ a ∧ h b + 1 = h a
theorem High.le {h : α → Nat} (H : L.High h) {a b : α} (k : L.le a b) : h a ≤ h b := by
  by_cases e : a = b
  · rw [e]; exact Nat.le_refl _
  · exact Nat.le_of_lt (H.mono _ _ k e)
theorem High.eq {h : α → Nat} (H : L.High h) {a b : α} (k : L.le a b) (e : h b ≤ h a) : a = b := by
  apply Classical.byContradiction
  intro ne
  have := H.mono _ _ k ne
  omega
structure State (L : OL α) (s : α → Bool) : Prop where
  top : s L.top = true
  neg : ∀ a, s (L.neg a) = !s a
  join : ∀ a b, L.le a (L.neg b) → s (L.join a b) = (s a || s b) ∧ (s a && s b) = false
theorem State.bot {s : α → Bool} (S : L.State s) : s L.bot = false := by
  have := S.neg L.top; rw [L.neg_top, S.top] at this; exact this
theorem State.up (K : L.Keeps) {s : α → Bool} (S : L.State s) {a b : α} (h : L.le a b) (ha : s a = true) : s b = true := by
  have e := K a b h
  have := (S.join a (L.meet b (L.neg a)) (by rw [L.neg_meet, L.neg_neg]; exact L.join_r _ _)).1
  rw [e, ha] at this
  simpa using this
end OL
end Oml
end
section
namespace Oml
def at1 (N : List Int) (a : Nat) : Int := N.getD a 0
def at2 (U : List (List Int)) (a b : Nat) : Int := (U.getD a []).getD b 0
def leB (U : List (List Int)) (a b : Nat) : Bool := at2 U a b == 1
def allN (n : Nat) (p : Nat → Bool) : Bool := (List.range n).all p
def findN (n : Nat) (p : Nat → Bool) : Option Nat := (List.range n).find? p
theorem allN_iff {n : Nat} {p : Nat → Bool} : allN n p = true ↔ ∀ i, i < n → p i = true := by
  simp [allN, List.all_eq_true]
theorem findN_some {n : Nat} {p : Nat → Bool} {i : Nat} (h : findN n p = some i) : i < n ∧ p i = true := by
  have h1 := List.find?_some h
  have h2 := List.mem_of_find?_eq_some h
  exact ⟨by simpa using h2, h1⟩
structure Order (U : List (List Int)) : Prop where
  pos : 1 ≤ U.length
  small : U.length ≤ 12
  row : ∀ a, a < U.length → (U.getD a []).length = U.length
  bit : ∀ a b, a < U.length → b < U.length → at2 U a b = 0 ∨ at2 U a b = 1
  refl : ∀ a, a < U.length → leB U a a = true
  anti : ∀ a b, a < U.length → b < U.length → leB U a b = true → leB U b a = true → a = b
  trans : ∀ a b c, a < U.length → b < U.length → c < U.length → leB U a b = true → leB U b c = true → leB U a c = true
def orderB (U : List (List Int)) : Bool :=
  decide (1 ≤ U.length) && (decide (U.length ≤ 12) && (allN U.length (fun a => (U.getD a []).length == U.length && allN U.length fun b => at2 U a b == 0 || at2 U a b == 1) &&
    allN U.length fun a => leB U a a && allN U.length fun b => ((a == b) || !(leB U a b && leB U b a)) && allN U.length fun c => !(leB U a b && leB U b c) || leB U a c))
theorem orderB_iff {U : List (List Int)} : orderB U = true ↔ Order U := by
  unfold orderB
  simp only [Bool.and_eq_true, decide_eq_true_eq, allN_iff, Bool.or_eq_true, beq_iff_eq, Bool.not_eq_true']
  constructor
  · rintro ⟨h1, h2, h3, h4⟩
    refine ⟨h1, h2, fun a ha => (h3 a ha).1, fun a b ha hb => (h3 a ha).2 b hb, fun a ha => (h4 a ha).1, fun a b ha hb k1 k2 => ?_, fun a b c ha hb hc k1 k2 => ?_⟩
    · rcases ((h4 a ha).2 b hb).1 with e | e
      · exact e
      · rw [k1, k2] at e; exact absurd e (by simp)
    · rcases ((h4 a ha).2 b hb).2 c hc with e | e
      · rw [k1, k2] at e; exact absurd e (by simp)
      · exact e
  · intro O
    refine ⟨O.pos, O.small, fun a ha => ⟨O.row a ha, fun b hb => O.bit a b ha hb⟩, fun a ha => ⟨O.refl a ha, fun b hb => ⟨?_, fun c hc => ?_⟩⟩⟩
    · by_cases e : a = b
      · exact .inl e
      · right
        cases k1 : leB U a b <;> cases k2 : leB U b a <;> simp
        exact e (O.anti a b ha hb k1 k2)
    · cases k1 : leB U a b <;> cases k2 : leB U b c <;> simp
      exact O.trans a b c ha hb hc k1 k2
def meetP (U : List (List Int)) (a b c : Nat) : Bool := leB U c a && (leB U c b && allN U.length fun d => !(leB U d a && leB U d b) || leB U d c)
def joinP (U : List (List Int)) (a b c : Nat) : Bool := leB U a c && (leB U b c && allN U.length fun d => !(leB U a d && leB U b d) || leB U c d)
def meetO (U : List (List Int)) (a b : Nat) : Option Nat := findN U.length (meetP U a b)
def joinO (U : List (List Int)) (a b : Nat) : Option Nat := findN U.length (joinP U a b)
def leastO (U : List (List Int)) : Option Nat := findN U.length fun a => allN U.length fun b => leB U a b
structure Logic (U : List (List Int)) (N : List Int) : Prop extends Order U where
  meets : ∀ a b, a < U.length → b < U.length → (meetO U a b).isSome = true
  joins : ∀ a b, a < U.length → b < U.length → (joinO U a b).isSome = true
  len : N.length = U.length
  ran : ∀ a, a < U.length → 0 ≤ at1 N a ∧ at1 N a < U.length
  inv : ∀ a, a < U.length → at1 N (at1 N a).toNat = a
  comp : ∀ a, a < U.length → meetO U a (at1 N a).toNat = leastO U
  turn : ∀ a b, a < U.length → b < U.length → leB U a b = true → leB U (at1 N b).toNat (at1 N a).toNat = true
section
variable {U : List (List Int)} {N : List Int} (L : Logic U N)
include L in
theorem Logic.least_some : ∃ m, leastO U = some m := by
  have h0 : 0 < U.length := L.pos
  have := L.comp 0 h0
  obtain ⟨m, hm⟩ := Option.isSome_iff_exists.1 (L.meets 0 (at1 N 0).toNat h0 (by have := L.ran 0 h0; omega))
  exact ⟨m, by rw [← this, hm]⟩
def Logic.no : Fin U.length := ⟨(leastO U).get (by obtain ⟨m, h⟩ := L.least_some; rw [h]; rfl), (findN_some (Option.some_get _).symm).1⟩
end
end Oml
end
section
namespace Go.Proofs.Ytdoomkcgdcfmlaa.Print
open Oml
def turnL (U : List (List Int)) : List (List Int) := (List.range U.length).map fun a => (List.range U.length).map fun b => at2 U b a
end Go.Proofs.Ytdoomkcgdcfmlaa.Print
end
section
namespace Go.Proofs.Ytdoomkcgdcfmlaa.Print
open Go.RowKit Go.Proofs.YtdoomkcgdcfmlaaW.PrintWords Go.Proofs.YtdoomkcgdcfmlaaW.PrintLast Go.Proofs.YtdoomkcgdcfmlaaW.PrintMore
set_option linter.unusedVariables false
set_option linter.unusedSimpArgs false
open Oml
def AlgAt (W : World) (g : Nat) (U A O : List (List Int)) (N : List Int) (no yes : Int) : Prop :=
  ∃ A0 c0 A1 c1 A2 c2 A3 c3, W.heap[g]? = some (.cells #[.slice A0 U.length c0, .slice A1 A.length c1, .slice A2 O.length c2, .slice A3 N.length c3, .int .i64 no, .int .i64 yes] 70 (0, 0)) ∧
    (U.length ≤ c0 ∧ A.length ≤ c1 ∧ O.length ≤ c2 ∧ N.length ≤ c3) ∧ Kd.C (Kd.slice 3 (Kd.int .i64)) W A0 U.length U ∧ Kd.C (Kd.slice 3 (Kd.int .i64)) W A1 A.length A ∧ Kd.C (Kd.slice 3 (Kd.int .i64)) W A2 O.length O ∧ Kd.C (Kd.int .i64) W A3 N.length N
theorem AlgAt.below {W W1 : World} {g : Nat} {U A O : List (List Int)} {N : List Int} {no yes : Int} (h : AlgAt W g U A O N no yes) (hb : Below W.heap.size W W1) : AlgAt W1 g U A O N no yes := by
  obtain ⟨A0, c0, A1, c1, A2, c2, A3, c3, h1, hc, k0, k1, k2, k3⟩ := h
  exact ⟨A0, c0, A1, c1, A2, c2, A3, c3, blk_below h1 hb, hc, Kd.C_below k0 hb, Kd.C_below k1 hb, Kd.C_below k2 hb, Kd.C_below k3 hb⟩
theorem cell_up {w W : World} {B : Nat} {a : Addr} {v : Value} (h : w.cell? a = some v) (hb : Below B w W) (hB : B = w.heap.size) : W.cell? a = some v := by
  subst hB
  exact (hb.cell (World.block_lt_of_cell? w a h)).trans h
end Go.Proofs.Ytdoomkcgdcfmlaa.Print
end
section
namespace Go.Proofs.Ytdoomkcgdcfmlaa.Print
open Go.RowKit Go.Proofs.YtdoomkcgdcfmlaaW.PrintWords Go.Proofs.YtdoomkcgdcfmlaaW.PrintLast Go.Proofs.YtdoomkcgdcfmlaaW.PrintMore
set_option linter.unusedVariables false
set_option linter.unusedSimpArgs false
open Oml
theorem Ev.eq {α : Type} {g : Nat → Option α} {r r' : α} (h : Ev g r) (e : r = r') : Ev g r' := e ▸ h
def allFrom (n : Nat) (p : Nat → Bool) (i : Nat) : Bool := (List.range' i (n - i)).all p
theorem allFrom_lt {n : Nat} {p : Nat → Bool} {i : Nat} (h : i < n) : allFrom n p i = (p i && allFrom n p (i + 1)) := by
  unfold allFrom
  obtain ⟨d, rfl⟩ : ∃ d, n = i + (d + 1) := ⟨n - i - 1, by omega⟩
  rw [show i + (d + 1) - i = d + 1 by omega, show i + (d + 1) - (i + 1) = d by omega, List.range'_succ, List.all_cons]
theorem allFrom_ge {n : Nat} {p : Nat → Bool} {i : Nat} (h : n ≤ i) : allFrom n p i = true := by
  unfold allFrom; rw [show n - i = 0 by omega]; rfl
theorem allFrom_zero (n : Nat) (p : Nat → Bool) : allFrom n p 0 = allN n p := by
  unfold allFrom allN; rw [Nat.sub_zero, List.range_eq_range']
theorem wrap_nat {i : Nat} (h : i < 4611686018427387904) : wrap64 ((i : Int) + 1) = ((i + 1 : Nat) : Int) := by unfold wrap64; omega
theorem Ev.succ {α : Type} {g : Nat → Option α} {r : α} (h : Ev (fun k => g (k + 1)) r) : Ev g r := Ev.step (fun _ => rfl) h
theorem Ev.ite_pos {α : Type} {c : Prop} [Decidable c] {a b : Nat → Option α} {r : α} (h : c) (k : Ev a r) : Ev (fun n => if c then a n else b n) r := by simpa only [if_pos h] using k
theorem Ev.ite_neg {α : Type} {c : Prop} [Decidable c] {a b : Nat → Option α} {r : α} (h : ¬ c) (k : Ev b r) : Ev (fun n => if c then a n else b n) r := by simpa only [if_neg h] using k
theorem Ev.pure {α : Type} {o : Option α} {r : α} (h : o = some r) : Ev (fun _ => o) r := h ▸ Ev.now r
theorem Ev.pbind {α β : Type} {g : Option α} {f : Nat → α → Option β} {a : α} {r : β} (h : g = some a) (k : Ev (fun n => f n a) r) : Ev (fun n => g.bind (f n)) r := Ev.bind (g := fun _ => g) (Ev.pure h) k
theorem Ev.all {ρ : Type} {g : Nat → Int → Option ρ} {n : Nat} (p : Nat → Bool) {go stop : ρ} (hn : n < 4611686018427387904) (hend : (∀ i, i < n → p i = true) → Ev (fun k => g k (n : Int)) go)
    (hstep : ∀ i, i < n → (∀ j, j < i → p j = true) → ∀ R, (p i = true → Ev (fun k => g k (wrap64 ((i : Int) + 1))) R) → Ev (fun k => g k (i : Int)) (if p i = true then R else stop)) :
    Ev (fun k => g k 0) (if allN n p = true then go else stop) := by
  have key : ∀ d i, i + d = n → (∀ j, j < i → p j = true) → Ev (fun k => g k (i : Int)) (if allFrom n p i = true then go else stop) := by
    intro d
    induction d with
    | zero =>
      intro i hi hj
      obtain rfl : i = n := by omega
      rw [allFrom_ge (Nat.le_refl _), if_pos rfl]
      exact hend hj
    | succ d ih =>
      intro i hi hj
      rw [allFrom_lt (by omega)]
      refine Ev.eq (hstep i (by omega) hj (if allFrom n p (i + 1) = true then go else stop) fun hp => ?_) ?_
      · rw [wrap_nat (by omega)]
        exact ih (i + 1) (by omega) fun j hj' => by
          rcases Nat.lt_or_ge j i with h | h
          · exact hj j h
          · obtain rfl : j = i := by omega
            exact hp
      · cases p i <;> simp
  have := key n 0 (by omega) fun _ h => absurd h (Nat.not_lt_zero _)
  rw [allFrom_zero] at this
  exact this
theorem Ev.loop {σ ρ : Type} {g : Nat → σ → Int → Option ρ} (n : Nat) (I : Nat → σ → Prop) {R : ρ} (hn : n < 4611686018427387904) (hend : ∀ s, I n s → Ev (fun k => g k s (n : Int)) R)
    (hstep : ∀ i s, i < n → I i s → ∃ s', I (i + 1) s' ∧ (Ev (fun k => g k s' (wrap64 ((i : Int) + 1))) R → Ev (fun k => g k s (i : Int)) R)) : ∀ s, I 0 s → Ev (fun k => g k s 0) R := by
  have key : ∀ d i, i + d = n → ∀ s, I i s → Ev (fun k => g k s (i : Int)) R := by
    intro d
    induction d with
    | zero => intro i hi s hs
              obtain rfl : i = n := by omega
              exact hend s hs
    | succ d ih =>
      intro i hi s hs
      obtain ⟨s', h1, h2⟩ := hstep i s (by omega) hs
      refine h2 ?_
      rw [wrap_nat (by omega)]
      exact ih (i + 1) (by omega) s' h1
  exact fun s hs => key n 0 (by omega) s hs
theorem rd_nat (N : List Int) (i : Nat) : rd N (i : Int) = at1 N i := by simp [rd, at1]
theorem rdL_nat (U : List (List Int)) (i : Nat) : rd_L3 U (i : Int) = U.getD i [] := by simp [rd_L3]
theorem rd_row (U : List (List Int)) (i j : Nat) : at1 (U.getD i []) j = at2 U i j := rfl
end Go.Proofs.Ytdoomkcgdcfmlaa.Print
end
section
namespace Go.Proofs.Ytdoomkcgdcfmlaa.Print
open Go.RowKit Go.Proofs.YtdoomkcgdcfmlaaW.PrintWords Go.Proofs.YtdoomkcgdcfmlaaW.PrintLast Go.Proofs.YtdoomkcgdcfmlaaW.PrintMore
set_option linter.unusedVariables false
set_option linter.unusedSimpArgs false
open Oml
inductive Fm where
  | leaf (c : Int)
  | neg (f : Fm)
  | bin (o : Int) (f g : Fm)
def isLeaf (c : Int) : Prop := c = 97 ∨ c = 98 ∨ c = 99 ∨ c = 48 ∨ c = 49
instance (c : Int) : Decidable (isLeaf c) := by unfold isLeaf; infer_instance
def rdF : Nat → ByteArray → Option (Fm × ByteArray)
  | 0, _ => none
  | k + 1, s =>
    if s.size = 0 then none
    else if isLeaf (bt s 0) then some (.leaf (bt s 0), s.extract 1 s.size)
    else if bt s 0 = 33 then
      match rdF k (s.extract 1 s.size) with
      | none => none
      | some (f, r) => some (.neg f, r)
    else if bt s 0 = 40 then
      match rdF k (s.extract 1 s.size) with
      | none => none
      | some (f, r) =>
        if r.size = 0 then none
        else if bt r 0 = 38 ∨ bt r 0 = 124 then
          match rdF k (r.extract 1 r.size) with
          | none => none
          | some (g, q) =>
            if q.size = 0 then none
            else if bt q 0 = 41 then some (.bin (bt r 0) f g, q.extract 1 q.size)
            else none
        else none
    else none
theorem ext_size (s : ByteArray) : (s.extract 1 s.size).size = s.size - 1 := by rw [ByteArray.size_extract]; omega
theorem rdF_size : ∀ (k : Nat) (s : ByteArray) (f : Fm) (r : ByteArray), rdF k s = some (f, r) → r.size < s.size
  | 0, _, _, _, h => by simp [rdF] at h
  | k + 1, s, f, r, h => by
    have ih := rdF_size k
    simp only [rdF] at h
    split at h
    · cases h
    · rename_i h0
      split at h
      · cases h; rw [ext_size]; omega
      · split at h
        · split at h
          · cases h
          · rename_i f1 r1 h1
            cases h
            have := ih _ _ _ h1
            rw [ext_size] at this; omega
        · split at h
          · split at h
            · cases h
            · rename_i f1 r1 h1
              have h2 := ih _ _ _ h1
              rw [ext_size] at h2
              split at h
              · cases h
              · split at h
                · split at h
                  · cases h
                  · rename_i g q h3
                    have h4 := ih _ _ _ h3
                    rw [ext_size] at h4
                    split at h
                    · cases h
                    · split at h
                      · cases h; rw [ext_size]; omega
                      · cases h
                · cases h
          · cases h
def fmOf (s : ByteArray) : Option Fm :=
  if 60 < s.size then none
  else match rdF s.size s with
    | none => none
    | some (f, r) => if r.size = 0 then some f else none
def FAt (W : World) : Nat → Fm → Prop
  | p, .leaf c => W.heap[p]? = some (.cells #[.int .u8 c, .slice none 0 0] 98 (0, 0))
  | p, .neg f => ∃ q a c, W.heap[p]? = some (.cells #[.int .u8 33, .slice (some ⟨a, 0, none⟩) 1 c] 98 (0, 0)) ∧ W.cell? ⟨a, 0, none⟩ = some (.pointer (some ⟨q, 0, none⟩)) ∧ FAt W q f
  | p, .bin o f g => ∃ q r a c, W.heap[p]? = some (.cells #[.int .u8 o, .slice (some ⟨a, 0, none⟩) 2 c] 98 (0, 0)) ∧ W.cell? ⟨a, 0, none⟩ = some (.pointer (some ⟨q, 0, none⟩)) ∧ W.cell? ⟨a, 1, none⟩ = some (.pointer (some ⟨r, 0, none⟩)) ∧ FAt W q f ∧ FAt W r g
theorem FAt.below {W W1 : World} (hb : Below W.heap.size W W1) : ∀ (f : Fm) (p : Nat), FAt W p f → FAt W1 p f
  | .leaf c, p, h => blk_below h hb
  | .neg f, p, ⟨q, a, c, h1, h2, h3⟩ => ⟨q, a, c, blk_below h1 hb, cell_up h2 hb rfl, FAt.below hb f q h3⟩
  | .bin o f g, p, ⟨q, r, a, c, h1, h2, h3, h4, h5⟩ => ⟨q, r, a, c, blk_below h1 hb, cell_up h2 hb rfl, cell_up h3 hb rfl, FAt.below hb f q h4, FAt.below hb g r h5⟩
end Go.Proofs.Ytdoomkcgdcfmlaa.Print
end
section
namespace Go.Proofs.Ytdoomkcgdcfmlaa.Print
open Go.RowKit Go.Proofs.YtdoomkcgdcfmlaaW.PrintWords Go.Proofs.YtdoomkcgdcfmlaaW.PrintLast Go.Proofs.YtdoomkcgdcfmlaaW.PrintMore
set_option linter.unusedVariables false
set_option linter.unusedSimpArgs false
open Oml
def RdPost (w : World) (s : ByteArray) (o : Option (Fm × ByteArray)) (e : Ending) (w' : World) : Prop :=
  Below w.heap.size w w' ∧ match o with
    | none => e = .returned (.tuple #[.pointer none, .string s])
    | some (f, r) => ∃ p, e = .returned (.tuple #[.pointer (some ⟨p, 0, none⟩), .string r]) ∧ FAt w' p f
theorem size_al (W : World) (o : Obj) : (W.alloc o).heap.size = W.heap.size + 1 := by first | (simp; done) | (unfold World.alloc; simp; done) | rfl
theorem blk2 (W : World) (o q : Obj) : ((W.alloc o).alloc q).heap[W.heap.size + 1]? = some q ∧ ((W.alloc o).alloc q).heap[W.heap.size]? = some o := by
  have h := (MapKept.heap_alloc (W.alloc o) q).1
  rw [size_al] at h
  exact ⟨h, blk_alloc (MapKept.heap_alloc W o).1 q⟩
theorem str_nil {s : ByteArray} (h : s.size = 0) : s.toList = [] := by
  rw [ByteArray.toList_eq]
  have h2 : s.data.size = 0 := h
  exact List.eq_nil_of_length_eq_zero (by rw [Array.length_toList]; exact h2)
theorem str_ne {s : ByteArray} (h : 0 < s.size) : s.toList.isEmpty = false ∧ (s.toList == []) = false := by
  have h1 : s.toList ≠ [] := by
    rw [ByteArray.toList_eq]
    intro e
    have h2 : s.data.size = 0 := by rw [← Array.length_toList, e]; rfl
    have h3 : s.size = 0 := h2
    omega
  cases hl : s.toList with
  | nil => exact absurd hl h1
  | cons a l => exact ⟨rfl, rfl⟩
theorem read_empty (k : Nat) (s : ByteArray) (w : World) (h : s.size = 0) : Calls Try.prog 119 #[.string s] w (RdPost w s (rdF k s)) := by
  have hr : rdF k s = none := by cases k <;> simp [rdF, h]
  rw [hr]
  have h1 := str_nil h
  have h2 : (s.toList == []) = true := by rw [h1]; rfl
  have h3 : s.toList.isEmpty = true := by rw [h1]; rfl
  clear hr h
  go_enter Try.func119, Try.ntmps119
  go_wp2_with fail
  go_ret2
  exact ⟨Below.refl _ _, rfl⟩
def impl_readFormula.T9 : Bool × List (List Nat × List Nat) := (true, [([], []), ([0], [0]), ([1], [1]), ([2], [2]), ([], []), ([4], [4]), ([3, 0, 1, 2, 3], [3]), ([5, 6, 0, 1, 2, 3, 4, 5, 6], [5])])
def impl_readFormula.B9 : List Nat := [0, 1, 3, 7, 0, 16, 15, 127]
theorem impl_readFormula.tab9 : rtab .any (opsOf Try.f119 9) = impl_readFormula.T9 := by kernel_rfl
theorem impl_readFormula.bits9 : waitsOk impl_readFormula.T9.2 impl_readFormula.B9 = true := by kernel_rfl
def impl_readFormula.T22 : Bool × List (List Nat × List Nat) := (true, [([], []), ([0], [0]), ([], []), ([], []), ([2, 3], [2, 3]), ([1, 4], [1, 4]), ([5], [5]), ([], []), ([7], [7]), ([6, 0, 1, 2, 3, 4, 5, 6], [6]), ([8, 9, 0, 1, 2, 3, 4, 5, 6, 7, 8, 9], [8])])
def impl_readFormula.B22 : List Nat := [0, 1, 0, 0, 12, 31, 63, 0, 128, 127, 1023]
theorem impl_readFormula.tab22 : rtab .any (opsOf Try.f119 22) = impl_readFormula.T22 := by kernel_rfl
theorem impl_readFormula.bits22 : waitsOk impl_readFormula.T22.2 impl_readFormula.B22 = true := by kernel_rfl
theorem read_leaf (k : Nat) (s : ByteArray) (w : World) (hp : 0 < s.size) (c : Int) (hc : bt s 0 = c) (hl : isLeaf c) : Calls Try.prog 119 #[.string s] w (RdPost w s (rdF (k + 1) s)) := by
  have hr : rdF (k + 1) s = some (.leaf (bt s 0), s.extract 1 s.size) := by simp only [rdF]; rw [if_neg (by omega), if_pos (by rw [hc]; exact hl)]
  rw [hr]
  obtain ⟨n1, n2⟩ := str_ne hp
  have n3 : decide (0 < s.size) = true := decide_eq_true hp
  have n4 : decide (1 ≤ s.size) = true := decide_eq_true hp
  have n5 := eq_true hp
  have n7 : ∀ h : 0 < s.size, ((s[0]'h).toNat : Int) = bt s 0 := fun h => bt_at s 0 h
  have n6 : decide ((1 : Int) ≤ (s.size : Int)) = true := decide_eq_true (by omega); have n8 : ((1 : Int) ≤ (s.size : Int)) = True := eq_true (by omega)
  unfold isLeaf at hl
  clear hr
  rcases hl with hl | hl | hl | hl | hl
  all_goals
    subst hl
    have t97 : (bt s 0 == 97) = (bt s 0 == 97) := rfl
    have e97 : (bt s 0 == 97) = _ := congrArg (fun x : Int => x == 97) hc
    have e98 : (bt s 0 == 98) = _ := congrArg (fun x : Int => x == 98) hc
    have e99 : (bt s 0 == 99) = _ := congrArg (fun x : Int => x == 99) hc
    have e48 : (bt s 0 == 48) = _ := congrArg (fun x : Int => x == 48) hc
    have e49 : (bt s 0 == 49) = _ := congrArg (fun x : Int => x == 49) hc
    clear t97 hc
    go_enter Try.func119, Try.ntmps119
    go_wp2_with fail
    refine start_ (n := 8) (S := (fun _ => True)) (ds := []) #[false, false, false, false, false, false, false, false] (by kernel_rfl) rfl rfl True.intro (fun hHeld => ?_)
    refine with_tabW impl_readFormula.tab9 impl_readFormula.bits9 (fun HT_ HW_ => ?_)
    generalize hwd : w.drew = wd at hHeld ⊢
    have HB := Aside0.mk (show Below w.heap.size w wd from hwd ▸ below_drew1 (Below.refl _ _))
    clear hwd
    refine pure_ (i := 0) (N := some 21) (v := ?_) (a' := ?_) #[true, false, false, false, false, false, false, false] rfl rfl (any_of HT_.out (by kernel_rfl)) (fun _ _ _ h => h) (Or.inl ⟨by rfl, ?_⟩) ?_ ?_
    rotate_left
    · intro w'; go_simp; with_reducible rfl
    rotate_left
    · simp only [Act.put, List.setIfInBounds_toArray, List.set_cons_zero, List.set_cons_succ, i64_w, i32_w]; rfl
    refine pure_ (i := 1) (N := some 22) (v := ?_) (a' := ?_) #[true, true, false, false, false, false, false, false] rfl rfl (any_of HT_.out (by kernel_rfl)) (fun _ _ _ h => h) (Or.inl ⟨by rfl, ?_⟩) ?_ ?_
    rotate_left
    · intro w'; go_simp; with_reducible rfl
    rotate_left
    · simp only [Act.put, List.setIfInBounds_toArray, List.set_cons_zero, List.set_cons_succ, i64_w, i32_w]; rfl
    refine pure_ (i := 2) (N := some 23) (v := ?_) (a' := ?_) #[true, true, true, false, false, false, false, false] rfl rfl (any_of HT_.out (by kernel_rfl)) (fun _ _ _ h => h) (Or.inl ⟨by rfl, ?_⟩) ?_ ?_
    rotate_left
    · intro w'; go_simp; with_reducible rfl
    rotate_left
    · simp only [Act.put, List.setIfInBounds_toArray, List.set_cons_zero, List.set_cons_succ, i64_w, i32_w]; rfl
    refine pure_ (i := 4) (N := some 25) (v := ?_) (a' := ?_) #[true, true, true, false, true, false, false, false] rfl rfl (any_of HT_.out (by kernel_rfl)) (fun _ _ _ h => h) (Or.inl ⟨by rfl, ?_⟩) ?_ ?_
    rotate_left
    · intro w'; go_simp; with_reducible rfl
    rotate_left
    · simp only [Act.put, List.setIfInBounds_toArray, List.set_cons_zero, List.set_cons_succ, i64_w, i32_w]; rfl
    refine pure_ (i := 5) (N := some 26) (v := ?_) (a' := ?_) #[true, true, true, false, true, true, false, false] rfl rfl (any_of HT_.out (by kernel_rfl)) (fun _ _ _ h => h) (Or.inl ⟨by rfl, ?_⟩) ?_ ?_
    rotate_left
    · intro w'; go_simp; with_reducible rfl
    rotate_left
    · simp only [Act.put, List.setIfInBounds_toArray, List.set_cons_zero, List.set_cons_succ, i64_w, i32_w]; rfl
    refine one_ (i := 3) (N := some 24) #[true, true, true, true, true, true, false, false] rfl rfl (one_of HT_.out (by kernel_rfl)) (by decide) (fun K hK => ?_)
    refine box_step (cs := #[.int .u8 (bt s 0), .slice none 0 0]) (t := 98) (N := 24) (by rfl) (by rfl) ?hr1 ?_
    case hr1 => first | (go_simp; done) | (go_simp; rfl)
    intro p hp w1 hbox hb
    have HX := Aside0.mk hbox
    have HB1 := Aside0.mk (below_step HB.out hb)
    refine hK.out _ _ True.intro (fun hHeld1 => ?_)
    clear hK K hbox hb hp HB
    refine norm_ (a' := ?_) ?_ ?_
    rotate_left
    · show Act.put _ (some 24) _ = _
      simp only [Act.put, List.setIfInBounds_toArray, List.set_cons_zero, List.set_cons_succ, i64_w, i32_w]
      rfl
    refine pure_ (i := 6) (N := some 2) (v := ?_) (a' := ?_) #[true, true, true, true, true, true, true, false] rfl rfl (any_of HT_.out (by kernel_rfl)) (fun _ _ _ h => h) (Or.inl ⟨by rfl, ?_⟩) ?_ ?_
    rotate_left
    · intro w'; go_simp; with_reducible rfl
    rotate_left
    · simp only [Act.put, List.setIfInBounds_toArray, List.set_cons_zero, List.set_cons_succ, i64_w, i32_w]; rfl
    refine pure_ (i := 7) (N := some 3) (v := ?_) (a' := ?_) #[true, true, true, true, true, true, true, true] rfl rfl (any_of HT_.out (by kernel_rfl)) (fun _ _ _ h => h) (Or.inl ⟨by rfl, ?_⟩) ?_ ?_
    rotate_left
    · intro w'; go_simp; with_reducible rfl
    rotate_left
    · simp only [Act.put, List.setIfInBounds_toArray, List.set_cons_zero, List.set_cons_succ, i64_w, i32_w]; rfl
    refine done_ (done_of HT_.out (by kernel_rfl)) ?_
    go_wp2
    go_ret2
    exact ⟨by repeat (first | exact HB1.out | apply pw_below_drewN | apply below_drew1), p, rfl, HX.out⟩
theorem rd_neg {k : Nat} {s : ByteArray} (hp : 0 < s.size) (hc : bt s 0 = 33) : rdF (k + 1) s = match rdF k (s.extract 1 s.size) with | none => none | some (f, r) => some (.neg f, r) := by
  simp only [rdF]; rw [if_neg (by omega), if_neg (by rw [hc]; unfold isLeaf; omega), if_pos hc]
  all_goals (cases rdF k (s.extract 1 s.size) <;> rfl)
theorem rd_par {k : Nat} {s : ByteArray} (hp : 0 < s.size) (hc : bt s 0 = 40) : rdF (k + 1) s = match rdF k (s.extract 1 s.size) with
      | none => none
      | some (f, r) =>
        if r.size = 0 then none
        else if bt r 0 = 38 ∨ bt r 0 = 124 then
          match rdF k (r.extract 1 r.size) with
          | none => none
          | some (g, q) =>
            if q.size = 0 then none
            else if bt q 0 = 41 then some (.bin (bt r 0) f g, q.extract 1 q.size)
            else none
        else none := by
  simp only [rdF]; rw [if_neg (by omega), if_neg (by rw [hc]; unfold isLeaf; omega), if_neg (by rw [hc]; omega), if_pos hc]
  all_goals
    rcases rdF k (s.extract 1 s.size) with _ | ⟨f, r⟩
    · rfl
    simp only []
    split
    · rfl
    split
    · rcases rdF k (r.extract 1 r.size) with _ | ⟨g, q⟩ <;> rfl
    · rfl
set_option maxHeartbeats 4000000 in
set_option maxRecDepth 100000 in
theorem read_calls : ∀ (k : Nat) (s : ByteArray) (w : World), s.size ≤ k → Calls Try.prog 119 #[.string s] w (RdPost w s (rdF k s)) := by
  intro k
  induction k with
  | zero => intro s w h; exact read_empty 0 s w (by omega)
  | succ k ih =>
  intro s w hk
  rcases Nat.eq_zero_or_pos s.size with h0 | hp
  · exact read_empty _ s w h0
  by_cases hl : isLeaf (bt s 0)
  · exact read_leaf k s w hp _ rfl hl
  obtain ⟨n1, n2⟩ := str_ne hp
  have n3 : decide (0 < s.size) = true := decide_eq_true hp
  have n4 : decide (1 ≤ s.size) = true := decide_eq_true hp
  have n5 := eq_true hp
  have n7 : ∀ h : 0 < s.size, ((s[0]'h).toNat : Int) = bt s 0 := fun h => bt_at s 0 h
  have n6 : decide ((1 : Int) ≤ (s.size : Int)) = true := decide_eq_true (by omega); have n8 : ((1 : Int) ≤ (s.size : Int)) = True := eq_true (by omega)
  have HK := Aside0.mk (show (s.extract 1 s.size).size ≤ k by rw [ext_size]; omega)
  have IH := Aside0.mk ih
  by_cases hc : bt s 0 = 33
  · rw [rd_neg hp hc]
    cases hrd : rdF k (s.extract 1 s.size) with
    | none =>
      have HRD := Aside0.mk hrd
      have z97 : (bt s 0 == 97) = false := by rw [hc]; rfl
      have z98 : (bt s 0 == 98) = false := by rw [hc]; rfl
      have z99 : (bt s 0 == 99) = false := by rw [hc]; rfl
      have z48 : (bt s 0 == 48) = false := by rw [hc]; rfl
      have z49 : (bt s 0 == 49) = false := by rw [hc]; rfl
      have q33 : (bt s 0 == 33) = true := by rw [hc]; rfl
      clear ih hk hl hc hrd hp
      go_enter Try.func119, Try.ntmps119
      go_wp2_with (go_at_call 119; (with_reducible refine (IH.out (s.extract 1 s.size) _ HK.out).mono ?_); rintro e w2 ⟨hb, hm⟩; rw [HRD.out] at hm; obtain rfl := hm; have HB := Aside0.mk hb; clear hb)
      go_ret2
      exact ⟨HB.out, rfl⟩
    | some fr =>
      obtain ⟨f, r⟩ := fr
      have HRD := Aside0.mk hrd
      have z97 : (bt s 0 == 97) = false := by rw [hc]; rfl
      have z98 : (bt s 0 == 98) = false := by rw [hc]; rfl
      have z99 : (bt s 0 == 99) = false := by rw [hc]; rfl
      have z48 : (bt s 0 == 48) = false := by rw [hc]; rfl
      have z49 : (bt s 0 == 49) = false := by rw [hc]; rfl
      have q33 : (bt s 0 == 33) = true := by rw [hc]; rfl
      clear ih hk hl hc hrd hp
      go_enter Try.func119, Try.ntmps119
      go_wp2_with (go_at_call 119; (with_reducible refine (IH.out (s.extract 1 s.size) _ HK.out).mono ?_); rintro e w2 ⟨hb, hm⟩; rw [HRD.out] at hm; obtain ⟨p, rfl, hf⟩ := hm; have HB := Aside0.mk hb; have HF := Aside0.mk hf; clear hb hf)
      go_ret2
      have h2 := blk2 w2 (.cells #[.pointer (some ⟨p, 0, none⟩)] 59) (.cells #[.int .u8 33, .slice (some ⟨w2.heap.size, 0, none⟩) 1 1] 98)
      exact ⟨below_alloc (below_alloc HB.out _) _, w2.heap.size + 1, rfl, p, w2.heap.size, 1, h2.1, (blk_cell h2.2 0).trans rfl, FAt.below (below_alloc (below_alloc (Below.refl _ _) _) _) f p HF.out⟩
  by_cases hc2 : bt s 0 = 40
  · rw [rd_par hp hc2]
    cases hrd : rdF k (s.extract 1 s.size) with
    | none =>
      have HRD := Aside0.mk hrd
      have z97 : (bt s 0 == 97) = false := by rw [hc2]; rfl
      have z98 : (bt s 0 == 98) = false := by rw [hc2]; rfl
      have z99 : (bt s 0 == 99) = false := by rw [hc2]; rfl
      have z48 : (bt s 0 == 48) = false := by rw [hc2]; rfl
      have z49 : (bt s 0 == 49) = false := by rw [hc2]; rfl
      have z33 : (bt s 0 == 33) = false := by rw [hc2]; rfl
      have q40 : (bt s 0 == 40) = true := by rw [hc2]; rfl
      clear ih hk hl hc hc2 hrd hp
      go_enter Try.func119, Try.ntmps119
      go_wp2_with (go_at_call 119; (with_reducible refine (IH.out (s.extract 1 s.size) _ HK.out).mono ?_); rintro e w2 ⟨hb, hm⟩; rw [HRD.out] at hm; obtain rfl := hm; have HB := Aside0.mk hb; clear hb)
      go_ret2
      exact ⟨HB.out, rfl⟩
    | some fr =>
      obtain ⟨f, r⟩ := fr
      have HRD := Aside0.mk hrd
      have HRS := Aside0.mk (rdF_size _ _ _ _ hrd)
      have z97 : (bt s 0 == 97) = false := by rw [hc2]; rfl
      have z98 : (bt s 0 == 98) = false := by rw [hc2]; rfl
      have z99 : (bt s 0 == 99) = false := by rw [hc2]; rfl
      have z48 : (bt s 0 == 48) = false := by rw [hc2]; rfl
      have z49 : (bt s 0 == 49) = false := by rw [hc2]; rfl
      have z33 : (bt s 0 == 33) = false := by rw [hc2]; rfl
      have q40 : (bt s 0 == 40) = true := by rw [hc2]; rfl
      clear ih hk hl hc hc2 hrd
      simp only []
      by_cases hr0 : r.size = 0
      · rw [if_pos hr0]
        have m1 := str_nil hr0
        have m2 : (r.toList == []) = true := by rw [m1]; rfl
        have m3 : r.toList.isEmpty = true := by rw [m1]; rfl
        clear hr0 hp
        go_enter Try.func119, Try.ntmps119
        go_wp2_with (go_at_call 119; (with_reducible refine (IH.out (s.extract 1 s.size) _ HK.out).mono ?_); rintro e w2 ⟨hb, hm⟩; rw [HRD.out] at hm; obtain ⟨p, rfl, hf⟩ := hm; have HB := Aside0.mk hb; have HF := Aside0.mk hf; clear hb hf)
        go_ret2
        exact ⟨HB.out, rfl⟩
      rw [if_neg hr0]
      obtain ⟨m1, m2⟩ := str_ne (s := r) (by omega)
      have m3 : decide (0 < r.size) = true := decide_eq_true (by omega)
      have m4 : decide (1 ≤ r.size) = true := decide_eq_true (by omega)
      have m5 := eq_true (show 0 < r.size by omega)
      have m7 : ∀ h : 0 < r.size, ((r[0]'h).toNat : Int) = bt r 0 := fun h => bt_at r 0 h
      have m6 : decide ((1 : Int) ≤ (r.size : Int)) = true := decide_eq_true (by omega); have m8 : ((1 : Int) ≤ (r.size : Int)) = True := eq_true (by omega)
      have HK2 := Aside0.mk (show (r.extract 1 r.size).size ≤ k by rw [ext_size]; have := HRS.out; have := HK.out; rw [ext_size] at *; omega)
      clear hr0 hp
      by_cases ho : bt r 0 = 38 ∨ bt r 0 = 124
      · rw [if_pos ho]
        have HO := Aside0.mk ho
        have o1 : ((bt r 0 != 38) = false ∨ ((bt r 0 != 38) = true ∧ (bt r 0 != 124) = false)) := by
          rcases ho with e | e
          · left; rw [e]; rfl
          · right; rw [e]; exact ⟨rfl, rfl⟩
        clear ho
        have key : ∀ (o : Option (Fm × ByteArray)), rdF k (r.extract 1 r.size) = o → Calls Try.prog 119 #[.string s] w (RdPost w s (match o with
            | none => none
            | some (g, q) => if q.size = 0 then none else if bt q 0 = 41 then some (.bin (bt r 0) f g, q.extract 1 q.size) else none)) := by
          intro o ho
          have HO2 := Aside0.mk ho
          clear ho
          cases o with
          | none =>
            rcases o1 with o1 | ⟨o1, o2⟩
            all_goals
              go_enter Try.func119, Try.ntmps119
              go_wp2_with (first | (go_at_call 119; (with_reducible refine (IH.out (s.extract 1 s.size) _ HK.out).mono ?_); rintro e w2 ⟨hb, hm⟩; rw [HRD.out] at hm; obtain ⟨p, rfl, hf⟩ := hm; have HB := Aside0.mk hb; have HF := Aside0.mk hf; clear hb hf) | (go_at_call 119; (with_reducible refine (IH.out (r.extract 1 r.size) _ HK2.out).mono ?_); rintro e w3 ⟨hb, hm⟩; rw [HO2.out] at hm; obtain rfl := hm; have HB3 := Aside0.mk (below_step HB.out hb); clear hb))
              go_ret2
              exact ⟨HB3.out, rfl⟩
          | some gq =>
            obtain ⟨g, q2⟩ := gq
            simp only []
            by_cases hq0 : q2.size = 0
            · rw [if_pos hq0]
              have u1 := str_nil hq0
              have u2 : (q2.toList == []) = true := by rw [u1]; rfl
              have u3 : q2.toList.isEmpty = true := by rw [u1]; rfl
              clear hq0
              rcases o1 with o1 | ⟨o1, o2⟩
              all_goals
                go_enter Try.func119, Try.ntmps119
                go_wp2_with (first | (go_at_call 119; (with_reducible refine (IH.out (s.extract 1 s.size) _ HK.out).mono ?_); rintro e w2 ⟨hb, hm⟩; rw [HRD.out] at hm; obtain ⟨p, rfl, hf⟩ := hm; have HB := Aside0.mk hb; have HF := Aside0.mk hf; clear hb hf) | (go_at_call 119; (with_reducible refine (IH.out (r.extract 1 r.size) _ HK2.out).mono ?_); rintro e w3 ⟨hb, hm⟩; rw [HO2.out] at hm; obtain ⟨q, rfl, hf⟩ := hm; have HB3 := Aside0.mk (below_step HB.out hb); clear hb hf))
                go_ret2
                exact ⟨HB3.out, rfl⟩
            rw [if_neg hq0]
            obtain ⟨u1, u2⟩ := str_ne (s := q2) (by omega)
            have u3 : decide (0 < q2.size) = true := decide_eq_true (by omega)
            have u4 : decide (1 ≤ q2.size) = true := decide_eq_true (by omega)
            have u5 := eq_true (show 0 < q2.size by omega)
            have u7 : ∀ h : 0 < q2.size, ((q2[0]'h).toNat : Int) = bt q2 0 := fun h => bt_at q2 0 h
            have u6 : decide ((1 : Int) ≤ (q2.size : Int)) = true := decide_eq_true (by omega); have u8 : ((1 : Int) ≤ (q2.size : Int)) = True := eq_true (by omega)
            clear hq0
            by_cases hq : bt q2 0 = 41
            · rw [if_pos hq]
              have v1 : (bt q2 0 != 41) = false := by rw [hq]; rfl
              clear hq
              rcases o1 with o1 | ⟨o1, o2⟩
              all_goals
                go_enter Try.func119, Try.ntmps119
                go_wp2_with (first | (go_at_call 119; (with_reducible refine (IH.out (s.extract 1 s.size) _ HK.out).mono ?_); rintro e w2 ⟨hb, hm⟩; rw [HRD.out] at hm; obtain ⟨p, rfl, hf⟩ := hm; have HB := Aside0.mk hb; have HF := Aside0.mk hf; clear hb hf) | (go_at_call 119; (with_reducible refine (IH.out (r.extract 1 r.size) _ HK2.out).mono ?_); rintro e w3 ⟨hb, hm⟩; rw [HO2.out] at hm; obtain ⟨q, rfl, hf⟩ := hm; have HB3 := Aside0.mk (below_step HB.out hb); have HF3 := Aside0.mk (FAt.below hb f p HF.out); have HG3 := Aside0.mk hf; clear hb hf HB HF))
                refine start_ (n := 11) (S := (fun _ => True)) (ds := []) #[false, false, false, false, false, false, false, false, false, false, false] (by kernel_rfl) rfl rfl True.intro (fun hHeld => ?_)
                refine with_tabW impl_readFormula.tab22 impl_readFormula.bits22 (fun HT_ HW_ => ?_)
                generalize hwd : w3.drew = wd at hHeld ⊢
                have HB4 := Aside0.mk (show Below w.heap.size w wd from hwd ▸ below_drew1 HB3.out)
                have HFf := Aside0.mk (show FAt wd p f from hwd ▸ FAt.below (below_drew1 (Below.refl _ _)) f p HF3.out)
                have HFg := Aside0.mk (show FAt wd q g from hwd ▸ FAt.below (below_drew1 (Below.refl _ _)) g q HG3.out)
                clear hwd HB3 HF3 HG3
                refine pure_ (i := 0) (N := some 86) (v := ?_) (a' := ?_) #[true, false, false, false, false, false, false, false, false, false, false] rfl rfl (any_of HT_.out (by kernel_rfl)) (fun _ _ _ h => h) (Or.inl ⟨by rfl, ?_⟩) ?_ ?_
                rotate_left
                · intro w'; go_simp; with_reducible rfl
                rotate_left
                · simp only [Act.put, List.setIfInBounds_toArray, List.set_cons_zero, List.set_cons_succ, i64_w, i32_w]; rfl
                refine pure_ (i := 1) (N := some 87) (v := ?_) (a' := ?_) #[true, true, false, false, false, false, false, false, false, false, false] rfl rfl (any_of HT_.out (by kernel_rfl)) (fun _ _ _ h => h) (Or.inl ⟨by rfl, ?_⟩) ?_ ?_
                rotate_left
                · intro w'; go_simp; with_reducible rfl
                rotate_left
                · simp only [Act.put, List.setIfInBounds_toArray, List.set_cons_zero, List.set_cons_succ, i64_w, i32_w]; rfl
                refine pure_ (i := 2) (N := some 88) (v := ?_) (a' := ?_) #[true, true, true, false, false, false, false, false, false, false, false] rfl rfl (any_of HT_.out (by kernel_rfl)) (fun _ _ _ h => h) (Or.inl ⟨by rfl, ?_⟩) ?_ ?_
                rotate_left
                · intro w'; go_simp; with_reducible rfl
                rotate_left
                · simp only [Act.put, List.setIfInBounds_toArray, List.set_cons_zero, List.set_cons_succ, i64_w, i32_w]; rfl
                refine pure_ (i := 3) (N := some 89) (v := ?_) (a' := ?_) #[true, true, true, true, false, false, false, false, false, false, false] rfl rfl (any_of HT_.out (by kernel_rfl)) (fun _ _ _ h => h) (Or.inl ⟨by rfl, ?_⟩) ?_ ?_
                rotate_left
                · intro w'; go_simp; with_reducible rfl
                rotate_left
                · simp only [Act.put, List.setIfInBounds_toArray, List.set_cons_zero, List.set_cons_succ, i64_w, i32_w]; rfl
                refine pure_ (i := 7) (N := some 93) (v := ?_) (a' := ?_) #[true, true, true, true, false, false, false, true, false, false, false] rfl rfl (any_of HT_.out (by kernel_rfl)) (fun _ _ _ h => h) (Or.inl ⟨by rfl, ?_⟩) ?_ ?_
                rotate_left
                · intro w'; go_simp; with_reducible rfl
                rotate_left
                · simp only [Act.put, List.setIfInBounds_toArray, List.set_cons_zero, List.set_cons_succ, i64_w, i32_w]; rfl
                refine pure_ (i := 8) (N := some 94) (v := ?_) (a' := ?_) #[true, true, true, true, false, false, false, true, true, false, false] rfl rfl (any_of HT_.out (by kernel_rfl)) (fun _ _ _ h => h) (Or.inl ⟨by rfl, ?_⟩) ?_ ?_
                rotate_left
                · intro w'; go_simp; with_reducible rfl
                rotate_left
                · simp only [Act.put, List.setIfInBounds_toArray, List.set_cons_zero, List.set_cons_succ, i64_w, i32_w]; rfl
                refine one_ (i := 4) (N := some 90) #[true, true, true, true, true, false, false, true, true, false, false] rfl rfl (one_of HT_.out (by kernel_rfl)) (by decide) (fun K hK => ?_)
                refine event_step (w1 := World.alloc wd (.cells #[.pointer (some ⟨p, 0, none⟩), .pointer (some ⟨q, 0, none⟩)] 59)) (v := .slice (some ⟨wd.heap.size, 0, none⟩) 2 2) (by rfl) ?hr1 ?_
                case hr1 => first | (go_simp; done) | (go_simp; rfl)
                have HA := Aside0.mk (MapKept.heap_alloc wd (.cells #[.pointer (some ⟨p, 0, none⟩), .pointer (some ⟨q, 0, none⟩)] 59)).1
                have HB5 := Aside0.mk (below_alloc HB4.out (.cells #[.pointer (some ⟨p, 0, none⟩), .pointer (some ⟨q, 0, none⟩)] 59))
                have HFf5 := Aside0.mk (FAt.below (below_alloc (Below.refl _ _) (.cells #[.pointer (some ⟨p, 0, none⟩), .pointer (some ⟨q, 0, none⟩)] 59)) f p HFf.out)
                have HFg5 := Aside0.mk (FAt.below (below_alloc (Below.refl _ _) (.cells #[.pointer (some ⟨p, 0, none⟩), .pointer (some ⟨q, 0, none⟩)] 59)) g q HFg.out)
                obtain ⟨ag, hag⟩ : ∃ ag, ag = wd.heap.size := ⟨_, rfl⟩
                rw [← hag] at HA ⊢
                generalize World.alloc wd (.cells #[.pointer (some ⟨p, 0, none⟩), .pointer (some ⟨q, 0, none⟩)] 59) = w5 at HA HB5 HFf5 HFg5 ⊢
                clear hag HB4 HFf HFg
                refine hK.out _ _ True.intro (fun hHeld1 => ?_)
                clear hK K
                refine norm_ (a' := ?_) ?_ ?_
                rotate_left
                · show Act.put _ (some 90) _ = _
                  simp only [Act.put, List.setIfInBounds_toArray, List.set_cons_zero, List.set_cons_succ, i64_w, i32_w]
                  rfl
                refine pure_ (i := 5) (N := some 91) (v := ?_) (a' := ?_) #[true, true, true, true, true, true, false, true, true, false, false] rfl rfl (any_of HT_.out (by kernel_rfl)) (fun _ _ _ h => h) (Or.inl ⟨by rfl, ?_⟩) ?_ ?_
                rotate_left
                · intro w'; go_simp; with_reducible rfl
                rotate_left
                · simp only [Act.put, List.setIfInBounds_toArray, List.set_cons_zero, List.set_cons_succ, i64_w, i32_w]; rfl
                refine one_ (i := 6) (N := some 92) #[true, true, true, true, true, true, true, true, true, false, false] rfl rfl (one_of HT_.out (by kernel_rfl)) (by decide) (fun K hK => ?_)
                refine box_step (cs := #[.int .u8 (bt r 0), .slice (some ⟨ag, 0, none⟩) 2 2]) (t := 98) (N := 92) (by rfl) (by rfl) ?hr2 ?_
                case hr2 => first | (go_simp; done) | (go_simp; rfl)
                intro pp hp w6 hbox hb
                have HX := Aside0.mk hbox
                have HB6 := Aside0.mk (below_step HB5.out hb)
                have HA6 := Aside0.mk (blk_below HA.out hb)
                have HFf6 := Aside0.mk (FAt.below hb f p HFf5.out)
                have HFg6 := Aside0.mk (FAt.below hb g q HFg5.out)
                refine hK.out _ _ True.intro (fun hHeld2 => ?_)
                clear hK K hbox hb hp HB5 HA HFf5 HFg5
                refine norm_ (a' := ?_) ?_ ?_
                rotate_left
                · show Act.put _ (some 92) _ = _
                  simp only [Act.put, List.setIfInBounds_toArray, List.set_cons_zero, List.set_cons_succ, i64_w, i32_w]
                  rfl
                refine pure_ (i := 9) (N := some 2) (v := ?_) (a' := ?_) #[true, true, true, true, true, true, true, true, true, true, false] rfl rfl (any_of HT_.out (by kernel_rfl)) (fun _ _ _ h => h) (Or.inl ⟨by rfl, ?_⟩) ?_ ?_
                rotate_left
                · intro w'; go_simp; with_reducible rfl
                rotate_left
                · simp only [Act.put, List.setIfInBounds_toArray, List.set_cons_zero, List.set_cons_succ, i64_w, i32_w]; rfl
                refine pure_ (i := 10) (N := some 3) (v := ?_) (a' := ?_) #[true, true, true, true, true, true, true, true, true, true, true] rfl rfl (any_of HT_.out (by kernel_rfl)) (fun _ _ _ h => h) (Or.inl ⟨by rfl, ?_⟩) ?_ ?_
                rotate_left
                · intro w'; go_simp; with_reducible rfl
                rotate_left
                · simp only [Act.put, List.setIfInBounds_toArray, List.set_cons_zero, List.set_cons_succ, i64_w, i32_w]; rfl
                refine done_ (done_of HT_.out (by kernel_rfl)) ?_
                go_wp2
                go_ret2
                exact ⟨by repeat (first | exact HB6.out | apply pw_below_drewN | apply below_drew1), pp, rfl, p, q, ag, 2, HX.out, (blk_cell HA6.out 0).trans rfl, (blk_cell HA6.out 1).trans rfl, HFf6.out, HFg6.out⟩
            · rw [if_neg hq]
              have v1 : (bt q2 0 != 41) = true := bne_iff_ne.2 hq
              clear hq
              rcases o1 with o1 | ⟨o1, o2⟩
              all_goals
                go_enter Try.func119, Try.ntmps119
                go_wp2_with (first | (go_at_call 119; (with_reducible refine (IH.out (s.extract 1 s.size) _ HK.out).mono ?_); rintro e w2 ⟨hb, hm⟩; rw [HRD.out] at hm; obtain ⟨p, rfl, hf⟩ := hm; have HB := Aside0.mk hb; have HF := Aside0.mk hf; clear hb hf) | (go_at_call 119; (with_reducible refine (IH.out (r.extract 1 r.size) _ HK2.out).mono ?_); rintro e w3 ⟨hb, hm⟩; rw [HO2.out] at hm; obtain ⟨q, rfl, hf⟩ := hm; have HB3 := Aside0.mk (below_step HB.out hb); clear hb hf))
                go_ret2
                exact ⟨HB3.out, rfl⟩
        exact key _ rfl
      · rw [if_neg ho]
        have o1 : (bt r 0 != 38) = true := bne_iff_ne.2 (fun e => ho (.inl e))
        have o2 : (bt r 0 != 124) = true := bne_iff_ne.2 (fun e => ho (.inr e))
        clear ho
        go_enter Try.func119, Try.ntmps119
        go_wp2_with (go_at_call 119; (with_reducible refine (IH.out (s.extract 1 s.size) _ HK.out).mono ?_); rintro e w2 ⟨hb, hm⟩; rw [HRD.out] at hm; obtain ⟨p, rfl, hf⟩ := hm; have HB := Aside0.mk hb; have HF := Aside0.mk hf; clear hb hf)
        go_ret2
        exact ⟨HB.out, rfl⟩
  · have hr : rdF (k + 1) s = none := by simp only [rdF]; rw [if_neg (by omega), if_neg hl, if_neg hc, if_neg hc2]
    rw [hr]
    unfold isLeaf at hl
    have z97 : (bt s 0 == 97) = false := beq_eq_false_iff_ne.2 (fun e => by simp [e] at hl)
    have z98 : (bt s 0 == 98) = false := beq_eq_false_iff_ne.2 (fun e => by simp [e] at hl)
    have z99 : (bt s 0 == 99) = false := beq_eq_false_iff_ne.2 (fun e => by simp [e] at hl)
    have z48 : (bt s 0 == 48) = false := beq_eq_false_iff_ne.2 (fun e => by simp [e] at hl)
    have z49 : (bt s 0 == 49) = false := beq_eq_false_iff_ne.2 (fun e => by simp [e] at hl)
    have z33 : (bt s 0 == 33) = false := beq_eq_false_iff_ne.2 (fun e => by simp [e] at hc)
    have z40 : (bt s 0 == 40) = false := beq_eq_false_iff_ne.2 (fun e => by simp [e] at hc2)
    clear ih hk hl hc hc2 hr hp
    go_enter Try.func119, Try.ntmps119
    go_wp2_with fail
    go_ret2
    exact ⟨Below.refl _ _, rfl⟩
theorem formulaOf_calls (s : ByteArray) (w : World) : Calls Try.prog 73 #[.string s] w fun e w' => Below w.heap.size w w' ∧ match fmOf s with
    | none => e = .returned (.pointer none)
    | some f => ∃ p, e = .returned (.pointer (some ⟨p, 0, none⟩)) ∧ FAt w' p f := by
  unfold fmOf
  by_cases h : 60 < s.size
  · have d1 : decide ((60 : Int) < (s.size : Int)) = true := decide_eq_true (by omega)
    have d2 : decide (60 < s.size) = true := decide_eq_true h
    rw [if_pos h]
    clear h
    go_enter Try.func73, Try.ntmps73
    go_wp2_with fail
    go_ret
    exact ⟨Below.refl _ _, rfl⟩
  · have d1 : decide ((60 : Int) < (s.size : Int)) = false := decide_eq_false (by omega)
    have d2 : decide (60 < s.size) = false := decide_eq_false h
    rw [if_neg h]
    have HR := Aside0.mk (read_calls s.size s w (Nat.le_refl _))
    clear h
    generalize rdF s.size s = o at HR ⊢
    cases o with
    | none =>
      have key : ∀ x : ByteArray, x = s → Calls Try.prog 73 #[.string s] w fun e w' => Below w.heap.size w w' ∧ e = .returned (.pointer none) := by
        intro x hx
        by_cases h0 : s.size = 0
        · have m1 := str_nil h0
          have m2 : (s.toList != []) = false := by rw [m1]; rfl
          have m3 : s.toList.isEmpty = true := by rw [m1]; rfl
          clear h0
          go_enter Try.func73, Try.ntmps73
          go_wp2_with (go_at_call 119; (with_reducible refine HR.out.mono ?_); rintro e w2 ⟨hb, rfl⟩; have HB := Aside0.mk hb; clear hb)
          go_ret
          exact ⟨HB.out, rfl⟩
        · obtain ⟨m1, m2⟩ := str_ne (s := s) (by omega)
          have m3 : (s.toList != []) = true := by rw [bne, m2]; rfl
          clear h0
          go_enter Try.func73, Try.ntmps73
          go_wp2_with (go_at_call 119; (with_reducible refine HR.out.mono ?_); rintro e w2 ⟨hb, rfl⟩; have HB := Aside0.mk hb; clear hb)
          go_ret
          exact ⟨HB.out, rfl⟩
      exact key _ rfl
    | some fr =>
      obtain ⟨f, r⟩ := fr
      simp only []
      by_cases h0 : r.size = 0
      · rw [if_pos h0]
        have m1 := str_nil h0
        have m2 : (r.toList != []) = false := by rw [m1]; rfl
        have m3 : r.toList.isEmpty = true := by rw [m1]; rfl
        clear h0
        go_enter Try.func73, Try.ntmps73
        go_wp2_with (go_at_call 119; (with_reducible refine HR.out.mono ?_); rintro e w2 ⟨hb, p, rfl, hf⟩; have HB := Aside0.mk hb; have HF := Aside0.mk hf; clear hb hf)
        go_ret
        exact ⟨HB.out, p, rfl, HF.out⟩
      · rw [if_neg h0]
        obtain ⟨m1, m2⟩ := str_ne (s := r) (by omega)
        have m3 : (r.toList != []) = true := by rw [bne, m2]; rfl
        clear h0
        go_enter Try.func73, Try.ntmps73
        go_wp2_with (go_at_call 119; (with_reducible refine HR.out.mono ?_); rintro e w2 ⟨hb, p, rfl, hf⟩; have HB := Aside0.mk hb; clear hb hf)
        go_ret
        exact ⟨HB.out, rfl⟩
def impl_FormulaOk.f (a0 : ByteArray) : Option (Bool) := some (fmOf a0).isSome
theorem impl_FormulaOk.calls (a0 : ByteArray) (r : Bool) (w : World) (h : impl_FormulaOk.f a0 = some r) :
    Calls Try.prog 16 #[.string a0] w fun e w' => e = .returned (.bool r) ∧ Below w.heap.size w w' := by
  have HR := Aside0.mk (formulaOf_calls a0 w)
  simp only [impl_FormulaOk.f, Option.some.injEq] at h
  generalize fmOf a0 = o at HR h
  subst h
  cases o with
  | none =>
    go_enter Try.func16, Try.ntmps16
    go_wp2_with (go_at_call 73; (with_reducible refine HR.out.mono ?_); rintro e w2 ⟨hb, rfl⟩; have HB := Aside0.mk hb; clear hb)
    go_ret
    exact ⟨rfl, HB.out⟩
  | some f =>
    go_enter Try.func16, Try.ntmps16
    go_wp2_with (go_at_call 73; (with_reducible refine HR.out.mono ?_); rintro e w2 ⟨hb, p, rfl, hf⟩; have HB := Aside0.mk hb; clear hb hf)
    go_ret
    exact ⟨rfl, HB.out⟩
end Go.Proofs.Ytdoomkcgdcfmlaa.Print
end
section
namespace Go.Proofs.Ytdoomkcgdcfmlaa.Print
open Go.RowKit Go.Proofs.YtdoomkcgdcfmlaaW.PrintWords Go.Proofs.YtdoomkcgdcfmlaaW.PrintLast Go.Proofs.YtdoomkcgdcfmlaaW.PrintMore
attribute [local go_sem] max2_int min2_int max_two min_two max_three min_three max_four min_four   -- for this text's walks alone
set_option linter.unusedVariables false
set_option linter.unusedSimpArgs false
def laws_FnFormulaOk.f (k : Nat) (l0 : List Int) : Option (Bool) := if (l0.length : Int) > 1048576 then (some true) else ((spec_DrawFormulaOk.f k l0).bind fun t180 => ((impl_FormulaOk.f t180).bind fun t181 => ((spec_FormulaOk.f k t180).bind fun t182 => (if (t181 != t182) = true then (some false) else (if (t180.size : Int) ≥ 60 then ((impl_FormulaOk.f (⟨#[97]⟩ : ByteArray)).bind fun t183 => (if t183 = true then ((impl_FormulaOk.f (⟨#[]⟩ : ByteArray)).bind fun t184 => (if t184 = true then (some false) else ((laws_alive.f k).bind fun t185 => (some t185)))) else (some false))) else (if 1 + t180.size ≤ 9223372036854775807 then ((impl_FormulaOk.f ((⟨#[33]⟩ : ByteArray) ++ t180)).bind fun t186 => (if (t186 == t181) = true then ((impl_FormulaOk.f (⟨#[97]⟩ : ByteArray)).bind fun t187 => (if t187 = true then ((impl_FormulaOk.f (⟨#[]⟩ : ByteArray)).bind fun t188 => (if t188 = true then (some false) else ((laws_alive.f k).bind fun t189 => (some t189)))) else (some false))) else (some false))) else (none)))))))
set_option maxHeartbeats 8000000 in
set_option maxRecDepth 100000 in
theorem laws_FnFormulaOk.calls (k : Nat) (A0 : Option Addr) (c0 : Nat) (l0 : List Int) (r : Bool) (w : World) (hr0 : Kd.C (Kd.int .u8) w A0 l0.length l0) (hc0 : l0.length ≤ c0) (h : laws_FnFormulaOk.f k l0 = some r) :
    Calls Try.prog 3 #[.slice A0 l0.length c0] w fun e w' => e = .returned (.bool r) ∧ Below w.heap.size w w' := by
  have HR0 := Aside0.mk hr0
  have HC0 := Aside0.mk hc0
  clear hr0 hc0
  have HB := Aside0.mk (Below.refl w.heap.size w)
  have H : (if (l0.length : Int) > 1048576 then (some true) else ((spec_DrawFormulaOk.f k l0).bind fun t180 => ((impl_FormulaOk.f t180).bind fun t181 => ((spec_FormulaOk.f k t180).bind fun t182 => (if (t181 != t182) = true then (some false) else (if (t180.size : Int) ≥ 60 then ((impl_FormulaOk.f (⟨#[97]⟩ : ByteArray)).bind fun t183 => (if t183 = true then ((impl_FormulaOk.f (⟨#[]⟩ : ByteArray)).bind fun t184 => (if t184 = true then (some false) else ((laws_alive.f k).bind fun t185 => (some t185)))) else (some false))) else (if 1 + t180.size ≤ 9223372036854775807 then ((impl_FormulaOk.f ((⟨#[33]⟩ : ByteArray) ++ t180)).bind fun t186 => (if (t186 == t181) = true then ((impl_FormulaOk.f (⟨#[97]⟩ : ByteArray)).bind fun t187 => (if t187 = true then ((impl_FormulaOk.f (⟨#[]⟩ : ByteArray)).bind fun t188 => (if t188 = true then (some false) else ((laws_alive.f k).bind fun t189 => (some t189)))) else (some false))) else (some false))) else (none)))))))) = some r := h
  clear h
  by_cases c2 : (l0.length : Int) > 1048576
  · rw [if_pos c2] at H
    have c2b0 : decide (1048576 < (l0.length : Int)) = true := decide_eq_true c2
    have c2b1 : decide (1048576 < l0.length) = true := decide_eq_true (by omega)
    clear c2
    obtain rfl := Option.some.inj H
    go_enter Try.func3, Try.ntmps3
    go_wp2
    go_ret
    exact ⟨by first | rfl | (simp [errW_none, errW_some] <;> rfl) | (simp [*, errW_none, errW_some] <;> rfl), by repeat (first | (with_reducible first | exact HB.out | apply below_alloc | apply pw_below_drewN | apply below_drew1) | exact HB.out)⟩
  · rw [if_neg c2] at H
    have c2b0 : decide (1048576 < (l0.length : Int)) = false := decide_eq_false c2
    have c2b1 : decide (1048576 < l0.length) = false := decide_eq_false (by omega)
    clear c2
    replace H := Option.bind_eq_some_iff.mp H
    obtain ⟨t180, A30, H⟩ := H
    replace H : ((impl_FormulaOk.f t180).bind fun t181 => ((spec_FormulaOk.f k t180).bind fun t182 => (if (t181 != t182) = true then (some false) else (if (t180.size : Int) ≥ 60 then ((impl_FormulaOk.f (⟨#[97]⟩ : ByteArray)).bind fun t183 => (if t183 = true then ((impl_FormulaOk.f (⟨#[]⟩ : ByteArray)).bind fun t184 => (if t184 = true then (some false) else ((laws_alive.f k).bind fun t185 => (some t185)))) else (some false))) else (if 1 + t180.size ≤ 9223372036854775807 then ((impl_FormulaOk.f ((⟨#[33]⟩ : ByteArray) ++ t180)).bind fun t186 => (if (t186 == t181) = true then ((impl_FormulaOk.f (⟨#[97]⟩ : ByteArray)).bind fun t187 => (if t187 = true then ((impl_FormulaOk.f (⟨#[]⟩ : ByteArray)).bind fun t188 => (if t188 = true then (some false) else ((laws_alive.f k).bind fun t189 => (some t189)))) else (some false))) else (some false))) else (none)))))) = some r := H
    have A3 := Aside0.mk A30
    clear A30
    replace H := Option.bind_eq_some_iff.mp H
    obtain ⟨t181, A40, H⟩ := H
    replace H : ((spec_FormulaOk.f k t180).bind fun t182 => (if (t181 != t182) = true then (some false) else (if (t180.size : Int) ≥ 60 then ((impl_FormulaOk.f (⟨#[97]⟩ : ByteArray)).bind fun t183 => (if t183 = true then ((impl_FormulaOk.f (⟨#[]⟩ : ByteArray)).bind fun t184 => (if t184 = true then (some false) else ((laws_alive.f k).bind fun t185 => (some t185)))) else (some false))) else (if 1 + t180.size ≤ 9223372036854775807 then ((impl_FormulaOk.f ((⟨#[33]⟩ : ByteArray) ++ t180)).bind fun t186 => (if (t186 == t181) = true then ((impl_FormulaOk.f (⟨#[97]⟩ : ByteArray)).bind fun t187 => (if t187 = true then ((impl_FormulaOk.f (⟨#[]⟩ : ByteArray)).bind fun t188 => (if t188 = true then (some false) else ((laws_alive.f k).bind fun t189 => (some t189)))) else (some false))) else (some false))) else (none))))) = some r := H
    have A4 := Aside0.mk A40
    clear A40
    replace H := Option.bind_eq_some_iff.mp H
    obtain ⟨t182, A50, H⟩ := H
    replace H : (if (t181 != t182) = true then (some false) else (if (t180.size : Int) ≥ 60 then ((impl_FormulaOk.f (⟨#[97]⟩ : ByteArray)).bind fun t183 => (if t183 = true then ((impl_FormulaOk.f (⟨#[]⟩ : ByteArray)).bind fun t184 => (if t184 = true then (some false) else ((laws_alive.f k).bind fun t185 => (some t185)))) else (some false))) else (if 1 + t180.size ≤ 9223372036854775807 then ((impl_FormulaOk.f ((⟨#[33]⟩ : ByteArray) ++ t180)).bind fun t186 => (if (t186 == t181) = true then ((impl_FormulaOk.f (⟨#[97]⟩ : ByteArray)).bind fun t187 => (if t187 = true then ((impl_FormulaOk.f (⟨#[]⟩ : ByteArray)).bind fun t188 => (if t188 = true then (some false) else ((laws_alive.f k).bind fun t189 => (some t189)))) else (some false))) else (some false))) else (none)))) = some r := H
    have A5 := Aside0.mk A50
    clear A50
    by_cases c6 : (t181 != t182) = true
    · rw [if_pos c6] at H
      have c6b0 : (t181 != t182) = true := c6
      (try (have c6b1 : decide (t181 = t182) = false := by simpa using c6))
      (try (have c6b2 : (t181 == t182) = false := by simpa using c6))
      (try (have c6b3 : ¬ (t181 = t182) := by simpa using c6))
      clear c6
      obtain rfl := Option.some.inj H
      go_enter Try.func3, Try.ntmps3
      go_wp2_with (first | ((with_reducible refine gate_callee (f := 15) rfl ?_); refine goesL_ (some 9) rfl rfl Try.func15 (by kernel_rfl) rfl #[.slice A0 l0.length c0] rfl (by (try simp only [List.map_toArray, List.map_cons, List.map_nil]); first | done | rfl | (simp only [List.length_drop, List.length_take]; rfl)) ?_; (with_reducible refine (spec_DrawFormulaOk.calls k _ _ l0 t180 _ ?side1 ?side2 A3.out).mono ?_); (case side1 => repeat (first | exact HR0.out | (with_reducible refine Kd.C_alloc ?_ _) | (with_reducible refine Kd.C_drewN ?_ _) | (with_reducible refine Kd.C_drew ?_))); (case side2 => exact HC0.out); rintro e w7 ⟨rfl, hb⟩; refine ⟨_, rfl, ?_⟩; have n0_ := Aside0.mk (below_step (by repeat (first | (with_reducible first | exact HB.out | apply below_alloc | apply pw_below_drewN | apply below_drew1) | exact HB.out)) hb); clear HB; have HB := n0_; clear n0_; (try clear hb); (try clear hb2); (try clear hk); (try clear hi)) | ((with_reducible refine gate_callee (f := 16) rfl ?_); refine goesL_ (some 11) rfl rfl Try.func16 (by kernel_rfl) rfl #[.string t180] rfl (by (try simp only [List.map_toArray, List.map_cons, List.map_nil]); first | done | rfl | (simp only [List.length_drop, List.length_take]; rfl)) ?_; (with_reducible refine (impl_FormulaOk.calls t180 t181 _ A4.out).mono ?_); rintro e w8 ⟨rfl, hb⟩; refine ⟨_, rfl, ?_⟩; have n0_ := Aside0.mk (below_step (by repeat (first | (with_reducible first | exact HB.out | apply below_alloc | apply pw_below_drewN | apply below_drew1) | exact HB.out)) hb); clear HB; have HB := n0_; clear n0_; (try clear hb); (try clear hb2); (try clear hk); (try clear hi)) | ((with_reducible refine gate_callee (f := 17) rfl ?_); refine goesL_ (some 14) rfl rfl Try.func17 (by kernel_rfl) rfl #[.string t180] rfl (by (try simp only [List.map_toArray, List.map_cons, List.map_nil]); first | done | rfl | (simp only [List.length_drop, List.length_take]; rfl)) ?_; (with_reducible refine (spec_FormulaOk.calls k t180 t182 _ A5.out).mono ?_); rintro e w' ⟨rfl, ⟨nd, rfl⟩⟩; refine ⟨_, rfl, ?_⟩))
      go_ret
      exact ⟨by first | rfl | (simp [errW_none, errW_some] <;> rfl) | (simp [*, errW_none, errW_some] <;> rfl), by repeat (first | (with_reducible first | exact HB.out | apply below_alloc | apply pw_below_drewN | apply below_drew1) | exact HB.out)⟩
    · rw [if_neg c6] at H
      have c6b0 : (t181 != t182) = false := by simpa using c6
      (try (have c6b1 : decide (t181 = t182) = true := by simpa using c6))
      (try (have c6b2 : (t181 == t182) = true := by simpa using c6))
      clear c6
      by_cases c9 : (t180.size : Int) ≥ 60
      · rw [if_pos c9] at H
        have c9b0 : decide (60 ≤ (t180.size : Int)) = true := decide_eq_true c9
        have c9b1 : decide (60 ≤ t180.size) = true := decide_eq_true (by omega)
        clear c9
        replace H := Option.bind_eq_some_iff.mp H
        obtain ⟨t183, A100, H⟩ := H
        replace H : (if t183 = true then ((impl_FormulaOk.f (⟨#[]⟩ : ByteArray)).bind fun t184 => (if t184 = true then (some false) else ((laws_alive.f k).bind fun t185 => (some t185)))) else (some false)) = some r := H
        have A10 := Aside0.mk A100
        clear A100
        by_cases c11 : t183 = true
        · subst c11
          have H1 : ((impl_FormulaOk.f (⟨#[]⟩ : ByteArray)).bind fun t184 => (if t184 = true then (some false) else ((laws_alive.f k).bind fun t185 => (some t185)))) = some r := by rw [if_pos rfl] at H; exact H
          clear H
          have H := H1
          clear H1
          replace H := Option.bind_eq_some_iff.mp H
          obtain ⟨t184, A120, H⟩ := H
          replace H : (if t184 = true then (some false) else ((laws_alive.f k).bind fun t185 => (some t185))) = some r := H
          have A12 := Aside0.mk A120
          clear A120
          by_cases c13 : t184 = true
          · subst c13
            have H1 : (some false) = some r := by rw [if_pos rfl] at H; exact H
            clear H
            have H := H1
            clear H1
            obtain rfl := Option.some.inj H
            go_enter Try.func3, Try.ntmps3
            go_wp2_with (first | ((with_reducible refine gate_callee (f := 15) rfl ?_); refine goesL_ (some 9) rfl rfl Try.func15 (by kernel_rfl) rfl #[.slice A0 l0.length c0] rfl (by (try simp only [List.map_toArray, List.map_cons, List.map_nil]); first | done | rfl | (simp only [List.length_drop, List.length_take]; rfl)) ?_; (with_reducible refine (spec_DrawFormulaOk.calls k _ _ l0 t180 _ ?side1 ?side2 A3.out).mono ?_); (case side1 => repeat (first | exact HR0.out | (with_reducible refine Kd.C_alloc ?_ _) | (with_reducible refine Kd.C_drewN ?_ _) | (with_reducible refine Kd.C_drew ?_))); (case side2 => exact HC0.out); rintro e w14 ⟨rfl, hb⟩; refine ⟨_, rfl, ?_⟩; have n0_ := Aside0.mk (below_step (by repeat (first | (with_reducible first | exact HB.out | apply below_alloc | apply pw_below_drewN | apply below_drew1) | exact HB.out)) hb); clear HB; have HB := n0_; clear n0_; (try clear hb); (try clear hb2); (try clear hk); (try clear hi)) | ((with_reducible refine gate_callee (f := 16) rfl ?_); refine goesL_ (some 11) rfl rfl Try.func16 (by kernel_rfl) rfl #[.string t180] rfl (by (try simp only [List.map_toArray, List.map_cons, List.map_nil]); first | done | rfl | (simp only [List.length_drop, List.length_take]; rfl)) ?_; (with_reducible refine (impl_FormulaOk.calls t180 t181 _ A4.out).mono ?_); rintro e w15 ⟨rfl, hb⟩; refine ⟨_, rfl, ?_⟩; have n0_ := Aside0.mk (below_step (by repeat (first | (with_reducible first | exact HB.out | apply below_alloc | apply pw_below_drewN | apply below_drew1) | exact HB.out)) hb); clear HB; have HB := n0_; clear n0_; (try clear hb); (try clear hb2); (try clear hk); (try clear hi)) | ((with_reducible refine gate_callee (f := 17) rfl ?_); refine goesL_ (some 14) rfl rfl Try.func17 (by kernel_rfl) rfl #[.string t180] rfl (by (try simp only [List.map_toArray, List.map_cons, List.map_nil]); first | done | rfl | (simp only [List.length_drop, List.length_take]; rfl)) ?_; (with_reducible refine (spec_FormulaOk.calls k t180 t182 _ A5.out).mono ?_); rintro e w' ⟨rfl, ⟨nd, rfl⟩⟩; refine ⟨_, rfl, ?_⟩) | (go_at_call 16; (with_reducible refine (impl_FormulaOk.calls (⟨#[97]⟩ : ByteArray) true _ A10.out).mono ?_); rintro e w16 ⟨rfl, hb⟩; have n0_ := Aside0.mk (below_step (by repeat (first | (with_reducible first | exact HB.out | apply below_alloc | apply pw_below_drewN | apply below_drew1) | exact HB.out)) hb); clear HB; have HB := n0_; clear n0_; (try clear hb); (try clear hb2); (try clear hk); (try clear hi)) | (go_at_call 16; (with_reducible refine (impl_FormulaOk.calls (⟨#[]⟩ : ByteArray) true _ A12.out).mono ?_); rintro e w17 ⟨rfl, hb⟩; have n0_ := Aside0.mk (below_step (by repeat (first | (with_reducible first | exact HB.out | apply below_alloc | apply pw_below_drewN | apply below_drew1) | exact HB.out)) hb); clear HB; have HB := n0_; clear n0_; (try clear hb); (try clear hb2); (try clear hk); (try clear hi)))
            go_ret
            exact ⟨by first | rfl | (simp [errW_none, errW_some] <;> rfl) | (simp [*, errW_none, errW_some] <;> rfl), by repeat (first | (with_reducible first | exact HB.out | apply below_alloc | apply pw_below_drewN | apply below_drew1) | exact HB.out)⟩
          · replace c13 := Bool.eq_false_iff.mpr c13
            subst c13
            have H1 : ((laws_alive.f k).bind fun t185 => (some t185)) = some r := by rw [if_neg (show ¬ (false = true) by decide)] at H; exact H
            clear H
            have H := H1
            clear H1
            replace H := Option.bind_eq_some_iff.mp H
            obtain ⟨t185, A180, H⟩ := H
            replace H : (some t185) = some r := H
            have A18 := Aside0.mk A180
            clear A180
            obtain rfl := Option.some.inj H
            go_enter Try.func3, Try.ntmps3
            go_wp2_with (first | ((with_reducible refine gate_callee (f := 15) rfl ?_); refine goesL_ (some 9) rfl rfl Try.func15 (by kernel_rfl) rfl #[.slice A0 l0.length c0] rfl (by (try simp only [List.map_toArray, List.map_cons, List.map_nil]); first | done | rfl | (simp only [List.length_drop, List.length_take]; rfl)) ?_; (with_reducible refine (spec_DrawFormulaOk.calls k _ _ l0 t180 _ ?side1 ?side2 A3.out).mono ?_); (case side1 => repeat (first | exact HR0.out | (with_reducible refine Kd.C_alloc ?_ _) | (with_reducible refine Kd.C_drewN ?_ _) | (with_reducible refine Kd.C_drew ?_))); (case side2 => exact HC0.out); rintro e w19 ⟨rfl, hb⟩; refine ⟨_, rfl, ?_⟩; have n0_ := Aside0.mk (below_step (by repeat (first | (with_reducible first | exact HB.out | apply below_alloc | apply pw_below_drewN | apply below_drew1) | exact HB.out)) hb); clear HB; have HB := n0_; clear n0_; (try clear hb); (try clear hb2); (try clear hk); (try clear hi)) | ((with_reducible refine gate_callee (f := 16) rfl ?_); refine goesL_ (some 11) rfl rfl Try.func16 (by kernel_rfl) rfl #[.string t180] rfl (by (try simp only [List.map_toArray, List.map_cons, List.map_nil]); first | done | rfl | (simp only [List.length_drop, List.length_take]; rfl)) ?_; (with_reducible refine (impl_FormulaOk.calls t180 t181 _ A4.out).mono ?_); rintro e w20 ⟨rfl, hb⟩; refine ⟨_, rfl, ?_⟩; have n0_ := Aside0.mk (below_step (by repeat (first | (with_reducible first | exact HB.out | apply below_alloc | apply pw_below_drewN | apply below_drew1) | exact HB.out)) hb); clear HB; have HB := n0_; clear n0_; (try clear hb); (try clear hb2); (try clear hk); (try clear hi)) | ((with_reducible refine gate_callee (f := 17) rfl ?_); refine goesL_ (some 14) rfl rfl Try.func17 (by kernel_rfl) rfl #[.string t180] rfl (by (try simp only [List.map_toArray, List.map_cons, List.map_nil]); first | done | rfl | (simp only [List.length_drop, List.length_take]; rfl)) ?_; (with_reducible refine (spec_FormulaOk.calls k t180 t182 _ A5.out).mono ?_); rintro e w' ⟨rfl, ⟨nd, rfl⟩⟩; refine ⟨_, rfl, ?_⟩) | (go_at_call 16; (with_reducible refine (impl_FormulaOk.calls (⟨#[97]⟩ : ByteArray) true _ A10.out).mono ?_); rintro e w21 ⟨rfl, hb⟩; have n0_ := Aside0.mk (below_step (by repeat (first | (with_reducible first | exact HB.out | apply below_alloc | apply pw_below_drewN | apply below_drew1) | exact HB.out)) hb); clear HB; have HB := n0_; clear n0_; (try clear hb); (try clear hb2); (try clear hk); (try clear hi)) | (go_at_call 16; (with_reducible refine (impl_FormulaOk.calls (⟨#[]⟩ : ByteArray) false _ A12.out).mono ?_); rintro e w22 ⟨rfl, hb⟩; have n0_ := Aside0.mk (below_step (by repeat (first | (with_reducible first | exact HB.out | apply below_alloc | apply pw_below_drewN | apply below_drew1) | exact HB.out)) hb); clear HB; have HB := n0_; clear n0_; (try clear hb); (try clear hb2); (try clear hk); (try clear hi)) | (go_at_call 18; (with_reducible refine (laws_alive.calls k  t185 _ A18.out).mono ?_); rintro e w23 ⟨rfl, hb⟩; have n0_ := Aside0.mk (below_step (by repeat (first | (with_reducible first | exact HB.out | apply below_alloc | apply pw_below_drewN | apply below_drew1) | exact HB.out)) hb); clear HB; have HB := n0_; clear n0_; (try clear hb); (try clear hb2); (try clear hk); (try clear hi)))
            go_ret
            exact ⟨by first | rfl | (simp [errW_none, errW_some] <;> rfl) | (simp [*, errW_none, errW_some] <;> rfl), by repeat (first | (with_reducible first | exact HB.out | apply below_alloc | apply pw_below_drewN | apply below_drew1) | exact HB.out)⟩
        · replace c11 := Bool.eq_false_iff.mpr c11
          subst c11
          have H1 : (some false) = some r := by rw [if_neg (show ¬ (false = true) by decide)] at H; exact H
          clear H
          have H := H1
          clear H1
          obtain rfl := Option.some.inj H
          go_enter Try.func3, Try.ntmps3
          go_wp2_with (first | ((with_reducible refine gate_callee (f := 15) rfl ?_); refine goesL_ (some 9) rfl rfl Try.func15 (by kernel_rfl) rfl #[.slice A0 l0.length c0] rfl (by (try simp only [List.map_toArray, List.map_cons, List.map_nil]); first | done | rfl | (simp only [List.length_drop, List.length_take]; rfl)) ?_; (with_reducible refine (spec_DrawFormulaOk.calls k _ _ l0 t180 _ ?side1 ?side2 A3.out).mono ?_); (case side1 => repeat (first | exact HR0.out | (with_reducible refine Kd.C_alloc ?_ _) | (with_reducible refine Kd.C_drewN ?_ _) | (with_reducible refine Kd.C_drew ?_))); (case side2 => exact HC0.out); rintro e w24 ⟨rfl, hb⟩; refine ⟨_, rfl, ?_⟩; have n0_ := Aside0.mk (below_step (by repeat (first | (with_reducible first | exact HB.out | apply below_alloc | apply pw_below_drewN | apply below_drew1) | exact HB.out)) hb); clear HB; have HB := n0_; clear n0_; (try clear hb); (try clear hb2); (try clear hk); (try clear hi)) | ((with_reducible refine gate_callee (f := 16) rfl ?_); refine goesL_ (some 11) rfl rfl Try.func16 (by kernel_rfl) rfl #[.string t180] rfl (by (try simp only [List.map_toArray, List.map_cons, List.map_nil]); first | done | rfl | (simp only [List.length_drop, List.length_take]; rfl)) ?_; (with_reducible refine (impl_FormulaOk.calls t180 t181 _ A4.out).mono ?_); rintro e w25 ⟨rfl, hb⟩; refine ⟨_, rfl, ?_⟩; have n0_ := Aside0.mk (below_step (by repeat (first | (with_reducible first | exact HB.out | apply below_alloc | apply pw_below_drewN | apply below_drew1) | exact HB.out)) hb); clear HB; have HB := n0_; clear n0_; (try clear hb); (try clear hb2); (try clear hk); (try clear hi)) | ((with_reducible refine gate_callee (f := 17) rfl ?_); refine goesL_ (some 14) rfl rfl Try.func17 (by kernel_rfl) rfl #[.string t180] rfl (by (try simp only [List.map_toArray, List.map_cons, List.map_nil]); first | done | rfl | (simp only [List.length_drop, List.length_take]; rfl)) ?_; (with_reducible refine (spec_FormulaOk.calls k t180 t182 _ A5.out).mono ?_); rintro e w' ⟨rfl, ⟨nd, rfl⟩⟩; refine ⟨_, rfl, ?_⟩) | (go_at_call 16; (with_reducible refine (impl_FormulaOk.calls (⟨#[97]⟩ : ByteArray) false _ A10.out).mono ?_); rintro e w26 ⟨rfl, hb⟩; have n0_ := Aside0.mk (below_step (by repeat (first | (with_reducible first | exact HB.out | apply below_alloc | apply pw_below_drewN | apply below_drew1) | exact HB.out)) hb); clear HB; have HB := n0_; clear n0_; (try clear hb); (try clear hb2); (try clear hk); (try clear hi)))
          go_ret
          exact ⟨by first | rfl | (simp [errW_none, errW_some] <;> rfl) | (simp [*, errW_none, errW_some] <;> rfl), by repeat (first | (with_reducible first | exact HB.out | apply below_alloc | apply pw_below_drewN | apply below_drew1) | exact HB.out)⟩
      · rw [if_neg c9] at H
        have c9b0 : decide (60 ≤ (t180.size : Int)) = false := decide_eq_false c9
        have c9b1 : decide (60 ≤ t180.size) = false := decide_eq_false (by omega)
        clear c9
        by_cases c27 : 1 + t180.size ≤ 9223372036854775807
        · rw [if_pos c27] at H
          have c27b0 := eq_true c27
          have c27b1 : decide (1 + t180.size ≤ 9223372036854775807) = true := decide_eq_true c27
          try have c27b2 : (9223372036854775807 < 1 + t180.size) = False := eq_false (Nat.not_lt.2 c27)
          replace H := Option.bind_eq_some_iff.mp H
          obtain ⟨t186, A280, H⟩ := H
          replace H : (if (t186 == t181) = true then ((impl_FormulaOk.f (⟨#[97]⟩ : ByteArray)).bind fun t187 => (if t187 = true then ((impl_FormulaOk.f (⟨#[]⟩ : ByteArray)).bind fun t188 => (if t188 = true then (some false) else ((laws_alive.f k).bind fun t189 => (some t189)))) else (some false))) else (some false)) = some r := H
          have A28 := Aside0.mk A280
          clear A280
          by_cases c29 : (t186 == t181) = true
          · rw [if_pos c29] at H
            have c29b0 : (t186 == t181) = true := c29
            (try (have c29b1 : decide (t186 = t181) = true := by simpa using c29))
            (try (have c29b2 : (t186 == t181) = true := by simpa using c29))
            clear c29
            replace H := Option.bind_eq_some_iff.mp H
            obtain ⟨t187, A300, H⟩ := H
            replace H : (if t187 = true then ((impl_FormulaOk.f (⟨#[]⟩ : ByteArray)).bind fun t188 => (if t188 = true then (some false) else ((laws_alive.f k).bind fun t189 => (some t189)))) else (some false)) = some r := H
            have A30 := Aside0.mk A300
            clear A300
            by_cases c31 : t187 = true
            · subst c31
              have H1 : ((impl_FormulaOk.f (⟨#[]⟩ : ByteArray)).bind fun t188 => (if t188 = true then (some false) else ((laws_alive.f k).bind fun t189 => (some t189)))) = some r := by rw [if_pos rfl] at H; exact H
              clear H
              have H := H1
              clear H1
              replace H := Option.bind_eq_some_iff.mp H
              obtain ⟨t188, A320, H⟩ := H
              replace H : (if t188 = true then (some false) else ((laws_alive.f k).bind fun t189 => (some t189))) = some r := H
              have A32 := Aside0.mk A320
              clear A320
              by_cases c33 : t188 = true
              · subst c33
                have H1 : (some false) = some r := by rw [if_pos rfl] at H; exact H
                clear H
                have H := H1
                clear H1
                obtain rfl := Option.some.inj H
                go_enter Try.func3, Try.ntmps3
                go_wp2_with (first | ((with_reducible refine gate_callee (f := 15) rfl ?_); refine goesL_ (some 9) rfl rfl Try.func15 (by kernel_rfl) rfl #[.slice A0 l0.length c0] rfl (by (try simp only [List.map_toArray, List.map_cons, List.map_nil]); first | done | rfl | (simp only [List.length_drop, List.length_take]; rfl)) ?_; (with_reducible refine (spec_DrawFormulaOk.calls k _ _ l0 t180 _ ?side1 ?side2 A3.out).mono ?_); (case side1 => repeat (first | exact HR0.out | (with_reducible refine Kd.C_alloc ?_ _) | (with_reducible refine Kd.C_drewN ?_ _) | (with_reducible refine Kd.C_drew ?_))); (case side2 => exact HC0.out); rintro e w34 ⟨rfl, hb⟩; refine ⟨_, rfl, ?_⟩; have n0_ := Aside0.mk (below_step (by repeat (first | (with_reducible first | exact HB.out | apply below_alloc | apply pw_below_drewN | apply below_drew1) | exact HB.out)) hb); clear HB; have HB := n0_; clear n0_; (try clear hb); (try clear hb2); (try clear hk); (try clear hi)) | ((with_reducible refine gate_callee (f := 16) rfl ?_); refine goesL_ (some 11) rfl rfl Try.func16 (by kernel_rfl) rfl #[.string t180] rfl (by (try simp only [List.map_toArray, List.map_cons, List.map_nil]); first | done | rfl | (simp only [List.length_drop, List.length_take]; rfl)) ?_; (with_reducible refine (impl_FormulaOk.calls t180 t181 _ A4.out).mono ?_); rintro e w35 ⟨rfl, hb⟩; refine ⟨_, rfl, ?_⟩; have n0_ := Aside0.mk (below_step (by repeat (first | (with_reducible first | exact HB.out | apply below_alloc | apply pw_below_drewN | apply below_drew1) | exact HB.out)) hb); clear HB; have HB := n0_; clear n0_; (try clear hb); (try clear hb2); (try clear hk); (try clear hi)) | ((with_reducible refine gate_callee (f := 17) rfl ?_); refine goesL_ (some 14) rfl rfl Try.func17 (by kernel_rfl) rfl #[.string t180] rfl (by (try simp only [List.map_toArray, List.map_cons, List.map_nil]); first | done | rfl | (simp only [List.length_drop, List.length_take]; rfl)) ?_; (with_reducible refine (spec_FormulaOk.calls k t180 t182 _ A5.out).mono ?_); rintro e w' ⟨rfl, ⟨nd, rfl⟩⟩; refine ⟨_, rfl, ?_⟩) | (go_at_call 16; (with_reducible refine (impl_FormulaOk.calls ((⟨#[33]⟩ : ByteArray) ++ t180) t186 _ A28.out).mono ?_); rintro e w36 ⟨rfl, hb⟩; have n0_ := Aside0.mk (below_step (by repeat (first | (with_reducible first | exact HB.out | apply below_alloc | apply pw_below_drewN | apply below_drew1) | exact HB.out)) hb); clear HB; have HB := n0_; clear n0_; (try clear hb); (try clear hb2); (try clear hk); (try clear hi)) | (go_at_call 16; (with_reducible refine (impl_FormulaOk.calls (⟨#[97]⟩ : ByteArray) true _ A30.out).mono ?_); rintro e w37 ⟨rfl, hb⟩; have n0_ := Aside0.mk (below_step (by repeat (first | (with_reducible first | exact HB.out | apply below_alloc | apply pw_below_drewN | apply below_drew1) | exact HB.out)) hb); clear HB; have HB := n0_; clear n0_; (try clear hb); (try clear hb2); (try clear hk); (try clear hi)) | (go_at_call 16; (with_reducible refine (impl_FormulaOk.calls (⟨#[]⟩ : ByteArray) true _ A32.out).mono ?_); rintro e w38 ⟨rfl, hb⟩; have n0_ := Aside0.mk (below_step (by repeat (first | (with_reducible first | exact HB.out | apply below_alloc | apply pw_below_drewN | apply below_drew1) | exact HB.out)) hb); clear HB; have HB := n0_; clear n0_; (try clear hb); (try clear hb2); (try clear hk); (try clear hi)))
                go_ret
                exact ⟨by first | rfl | (simp [errW_none, errW_some] <;> rfl) | (simp [*, errW_none, errW_some] <;> rfl), by repeat (first | (with_reducible first | exact HB.out | apply below_alloc | apply pw_below_drewN | apply below_drew1) | exact HB.out)⟩
              · replace c33 := Bool.eq_false_iff.mpr c33
                subst c33
                have H1 : ((laws_alive.f k).bind fun t189 => (some t189)) = some r := by rw [if_neg (show ¬ (false = true) by decide)] at H; exact H
                clear H
                have H := H1
                clear H1
                replace H := Option.bind_eq_some_iff.mp H
                obtain ⟨t189, A390, H⟩ := H
                replace H : (some t189) = some r := H
                have A39 := Aside0.mk A390
                clear A390
                obtain rfl := Option.some.inj H
                go_enter Try.func3, Try.ntmps3
                go_wp2_with (first | ((with_reducible refine gate_callee (f := 15) rfl ?_); refine goesL_ (some 9) rfl rfl Try.func15 (by kernel_rfl) rfl #[.slice A0 l0.length c0] rfl (by (try simp only [List.map_toArray, List.map_cons, List.map_nil]); first | done | rfl | (simp only [List.length_drop, List.length_take]; rfl)) ?_; (with_reducible refine (spec_DrawFormulaOk.calls k _ _ l0 t180 _ ?side1 ?side2 A3.out).mono ?_); (case side1 => repeat (first | exact HR0.out | (with_reducible refine Kd.C_alloc ?_ _) | (with_reducible refine Kd.C_drewN ?_ _) | (with_reducible refine Kd.C_drew ?_))); (case side2 => exact HC0.out); rintro e w40 ⟨rfl, hb⟩; refine ⟨_, rfl, ?_⟩; have n0_ := Aside0.mk (below_step (by repeat (first | (with_reducible first | exact HB.out | apply below_alloc | apply pw_below_drewN | apply below_drew1) | exact HB.out)) hb); clear HB; have HB := n0_; clear n0_; (try clear hb); (try clear hb2); (try clear hk); (try clear hi)) | ((with_reducible refine gate_callee (f := 16) rfl ?_); refine goesL_ (some 11) rfl rfl Try.func16 (by kernel_rfl) rfl #[.string t180] rfl (by (try simp only [List.map_toArray, List.map_cons, List.map_nil]); first | done | rfl | (simp only [List.length_drop, List.length_take]; rfl)) ?_; (with_reducible refine (impl_FormulaOk.calls t180 t181 _ A4.out).mono ?_); rintro e w41 ⟨rfl, hb⟩; refine ⟨_, rfl, ?_⟩; have n0_ := Aside0.mk (below_step (by repeat (first | (with_reducible first | exact HB.out | apply below_alloc | apply pw_below_drewN | apply below_drew1) | exact HB.out)) hb); clear HB; have HB := n0_; clear n0_; (try clear hb); (try clear hb2); (try clear hk); (try clear hi)) | ((with_reducible refine gate_callee (f := 17) rfl ?_); refine goesL_ (some 14) rfl rfl Try.func17 (by kernel_rfl) rfl #[.string t180] rfl (by (try simp only [List.map_toArray, List.map_cons, List.map_nil]); first | done | rfl | (simp only [List.length_drop, List.length_take]; rfl)) ?_; (with_reducible refine (spec_FormulaOk.calls k t180 t182 _ A5.out).mono ?_); rintro e w' ⟨rfl, ⟨nd, rfl⟩⟩; refine ⟨_, rfl, ?_⟩) | (go_at_call 16; (with_reducible refine (impl_FormulaOk.calls ((⟨#[33]⟩ : ByteArray) ++ t180) t186 _ A28.out).mono ?_); rintro e w42 ⟨rfl, hb⟩; have n0_ := Aside0.mk (below_step (by repeat (first | (with_reducible first | exact HB.out | apply below_alloc | apply pw_below_drewN | apply below_drew1) | exact HB.out)) hb); clear HB; have HB := n0_; clear n0_; (try clear hb); (try clear hb2); (try clear hk); (try clear hi)) | (go_at_call 16; (with_reducible refine (impl_FormulaOk.calls (⟨#[97]⟩ : ByteArray) true _ A30.out).mono ?_); rintro e w43 ⟨rfl, hb⟩; have n0_ := Aside0.mk (below_step (by repeat (first | (with_reducible first | exact HB.out | apply below_alloc | apply pw_below_drewN | apply below_drew1) | exact HB.out)) hb); clear HB; have HB := n0_; clear n0_; (try clear hb); (try clear hb2); (try clear hk); (try clear hi)) | (go_at_call 16; (with_reducible refine (impl_FormulaOk.calls (⟨#[]⟩ : ByteArray) false _ A32.out).mono ?_); rintro e w44 ⟨rfl, hb⟩; have n0_ := Aside0.mk (below_step (by repeat (first | (with_reducible first | exact HB.out | apply below_alloc | apply pw_below_drewN | apply below_drew1) | exact HB.out)) hb); clear HB; have HB := n0_; clear n0_; (try clear hb); (try clear hb2); (try clear hk); (try clear hi)) | (go_at_call 18; (with_reducible refine (laws_alive.calls k  t189 _ A39.out).mono ?_); rintro e w45 ⟨rfl, hb⟩; have n0_ := Aside0.mk (below_step (by repeat (first | (with_reducible first | exact HB.out | apply below_alloc | apply pw_below_drewN | apply below_drew1) | exact HB.out)) hb); clear HB; have HB := n0_; clear n0_; (try clear hb); (try clear hb2); (try clear hk); (try clear hi)))
                go_ret
                exact ⟨by first | rfl | (simp [errW_none, errW_some] <;> rfl) | (simp [*, errW_none, errW_some] <;> rfl), by repeat (first | (with_reducible first | exact HB.out | apply below_alloc | apply pw_below_drewN | apply below_drew1) | exact HB.out)⟩
            · replace c31 := Bool.eq_false_iff.mpr c31
              subst c31
              have H1 : (some false) = some r := by rw [if_neg (show ¬ (false = true) by decide)] at H; exact H
              clear H
              have H := H1
              clear H1
              obtain rfl := Option.some.inj H
              go_enter Try.func3, Try.ntmps3
              go_wp2_with (first | ((with_reducible refine gate_callee (f := 15) rfl ?_); refine goesL_ (some 9) rfl rfl Try.func15 (by kernel_rfl) rfl #[.slice A0 l0.length c0] rfl (by (try simp only [List.map_toArray, List.map_cons, List.map_nil]); first | done | rfl | (simp only [List.length_drop, List.length_take]; rfl)) ?_; (with_reducible refine (spec_DrawFormulaOk.calls k _ _ l0 t180 _ ?side1 ?side2 A3.out).mono ?_); (case side1 => repeat (first | exact HR0.out | (with_reducible refine Kd.C_alloc ?_ _) | (with_reducible refine Kd.C_drewN ?_ _) | (with_reducible refine Kd.C_drew ?_))); (case side2 => exact HC0.out); rintro e w46 ⟨rfl, hb⟩; refine ⟨_, rfl, ?_⟩; have n0_ := Aside0.mk (below_step (by repeat (first | (with_reducible first | exact HB.out | apply below_alloc | apply pw_below_drewN | apply below_drew1) | exact HB.out)) hb); clear HB; have HB := n0_; clear n0_; (try clear hb); (try clear hb2); (try clear hk); (try clear hi)) | ((with_reducible refine gate_callee (f := 16) rfl ?_); refine goesL_ (some 11) rfl rfl Try.func16 (by kernel_rfl) rfl #[.string t180] rfl (by (try simp only [List.map_toArray, List.map_cons, List.map_nil]); first | done | rfl | (simp only [List.length_drop, List.length_take]; rfl)) ?_; (with_reducible refine (impl_FormulaOk.calls t180 t181 _ A4.out).mono ?_); rintro e w47 ⟨rfl, hb⟩; refine ⟨_, rfl, ?_⟩; have n0_ := Aside0.mk (below_step (by repeat (first | (with_reducible first | exact HB.out | apply below_alloc | apply pw_below_drewN | apply below_drew1) | exact HB.out)) hb); clear HB; have HB := n0_; clear n0_; (try clear hb); (try clear hb2); (try clear hk); (try clear hi)) | ((with_reducible refine gate_callee (f := 17) rfl ?_); refine goesL_ (some 14) rfl rfl Try.func17 (by kernel_rfl) rfl #[.string t180] rfl (by (try simp only [List.map_toArray, List.map_cons, List.map_nil]); first | done | rfl | (simp only [List.length_drop, List.length_take]; rfl)) ?_; (with_reducible refine (spec_FormulaOk.calls k t180 t182 _ A5.out).mono ?_); rintro e w' ⟨rfl, ⟨nd, rfl⟩⟩; refine ⟨_, rfl, ?_⟩) | (go_at_call 16; (with_reducible refine (impl_FormulaOk.calls ((⟨#[33]⟩ : ByteArray) ++ t180) t186 _ A28.out).mono ?_); rintro e w48 ⟨rfl, hb⟩; have n0_ := Aside0.mk (below_step (by repeat (first | (with_reducible first | exact HB.out | apply below_alloc | apply pw_below_drewN | apply below_drew1) | exact HB.out)) hb); clear HB; have HB := n0_; clear n0_; (try clear hb); (try clear hb2); (try clear hk); (try clear hi)) | (go_at_call 16; (with_reducible refine (impl_FormulaOk.calls (⟨#[97]⟩ : ByteArray) false _ A30.out).mono ?_); rintro e w49 ⟨rfl, hb⟩; have n0_ := Aside0.mk (below_step (by repeat (first | (with_reducible first | exact HB.out | apply below_alloc | apply pw_below_drewN | apply below_drew1) | exact HB.out)) hb); clear HB; have HB := n0_; clear n0_; (try clear hb); (try clear hb2); (try clear hk); (try clear hi)))
              go_ret
              exact ⟨by first | rfl | (simp [errW_none, errW_some] <;> rfl) | (simp [*, errW_none, errW_some] <;> rfl), by repeat (first | (with_reducible first | exact HB.out | apply below_alloc | apply pw_below_drewN | apply below_drew1) | exact HB.out)⟩
          · rw [if_neg c29] at H
            have c29b0 : (t186 == t181) = false := by simpa using c29
            (try (have c29b1 : decide (t186 = t181) = false := by simpa using c29))
            (try (have c29b2 : (t186 == t181) = false := by simpa using c29))
            (try (have c29b3 : ¬ (t186 = t181) := by simpa using c29))
            clear c29
            obtain rfl := Option.some.inj H
            go_enter Try.func3, Try.ntmps3
            go_wp2_with (first | ((with_reducible refine gate_callee (f := 15) rfl ?_); refine goesL_ (some 9) rfl rfl Try.func15 (by kernel_rfl) rfl #[.slice A0 l0.length c0] rfl (by (try simp only [List.map_toArray, List.map_cons, List.map_nil]); first | done | rfl | (simp only [List.length_drop, List.length_take]; rfl)) ?_; (with_reducible refine (spec_DrawFormulaOk.calls k _ _ l0 t180 _ ?side1 ?side2 A3.out).mono ?_); (case side1 => repeat (first | exact HR0.out | (with_reducible refine Kd.C_alloc ?_ _) | (with_reducible refine Kd.C_drewN ?_ _) | (with_reducible refine Kd.C_drew ?_))); (case side2 => exact HC0.out); rintro e w50 ⟨rfl, hb⟩; refine ⟨_, rfl, ?_⟩; have n0_ := Aside0.mk (below_step (by repeat (first | (with_reducible first | exact HB.out | apply below_alloc | apply pw_below_drewN | apply below_drew1) | exact HB.out)) hb); clear HB; have HB := n0_; clear n0_; (try clear hb); (try clear hb2); (try clear hk); (try clear hi)) | ((with_reducible refine gate_callee (f := 16) rfl ?_); refine goesL_ (some 11) rfl rfl Try.func16 (by kernel_rfl) rfl #[.string t180] rfl (by (try simp only [List.map_toArray, List.map_cons, List.map_nil]); first | done | rfl | (simp only [List.length_drop, List.length_take]; rfl)) ?_; (with_reducible refine (impl_FormulaOk.calls t180 t181 _ A4.out).mono ?_); rintro e w51 ⟨rfl, hb⟩; refine ⟨_, rfl, ?_⟩; have n0_ := Aside0.mk (below_step (by repeat (first | (with_reducible first | exact HB.out | apply below_alloc | apply pw_below_drewN | apply below_drew1) | exact HB.out)) hb); clear HB; have HB := n0_; clear n0_; (try clear hb); (try clear hb2); (try clear hk); (try clear hi)) | ((with_reducible refine gate_callee (f := 17) rfl ?_); refine goesL_ (some 14) rfl rfl Try.func17 (by kernel_rfl) rfl #[.string t180] rfl (by (try simp only [List.map_toArray, List.map_cons, List.map_nil]); first | done | rfl | (simp only [List.length_drop, List.length_take]; rfl)) ?_; (with_reducible refine (spec_FormulaOk.calls k t180 t182 _ A5.out).mono ?_); rintro e w' ⟨rfl, ⟨nd, rfl⟩⟩; refine ⟨_, rfl, ?_⟩) | (go_at_call 16; (with_reducible refine (impl_FormulaOk.calls ((⟨#[33]⟩ : ByteArray) ++ t180) t186 _ A28.out).mono ?_); rintro e w52 ⟨rfl, hb⟩; have n0_ := Aside0.mk (below_step (by repeat (first | (with_reducible first | exact HB.out | apply below_alloc | apply pw_below_drewN | apply below_drew1) | exact HB.out)) hb); clear HB; have HB := n0_; clear n0_; (try clear hb); (try clear hb2); (try clear hk); (try clear hi)))
            go_ret
            exact ⟨by first | rfl | (simp [errW_none, errW_some] <;> rfl) | (simp [*, errW_none, errW_some] <;> rfl), by repeat (first | (with_reducible first | exact HB.out | apply below_alloc | apply pw_below_drewN | apply below_drew1) | exact HB.out)⟩
        · rw [if_neg c27] at H
          exact absurd H (by simp)
def laws_FnFormulaOk.Pure : Prop := ∀ (l0 : List Int), l0.length ≤ maxLen → l0.length * 1 ≤ 140737488351232 → (∀ x ∈ l0, (Lit.int .u8 x).wf = true) → ∃ k, laws_FnFormulaOk.f k l0 = some true
theorem laws_FnFormulaOk.walk (P : laws_FnFormulaOk.Pure) (a0 : Option Addr) (len0 cap0 : Nat) (z0 : List Int) (w : World) (w0 : (a0 = none ∧ len0 = 0 ∧ cap0 = 0 ∧ z0 = []) ∨ ∃ x, a0 = some x ∧ len0 ≤ cap0 ∧ cap0 ≤ maxLen ∧ z0.length = cap0 ∧ (∀ i, i < z0.length → w.cell? (x.add i) = some (.int .u8 (z0.getD i 0))) ∧ ∀ n ∈ z0, (Lit.int .u8 n).wf = true) (y0 : len0 * 1 ≤ 140737488351232) :
    Calls Try.prog 3 #[.slice a0 len0 cap0] w fun e w' => e = .returned (.bool true) ∧ Below w.heap.size w w' := by
  obtain ⟨l0, rfl, hr0, hm0, hw0, hc0⟩ := ReadsInt.ofRowC w0
  obtain ⟨k, h⟩ := P l0 hm0 y0 hw0
  refine (laws_FnFormulaOk.calls k _ _ l0 true w (Kd.C_of_reads (d := (0 : Int)) (h1 := fun _ => rfl) hr0) hc0 h).mono ?_
  rintro e w' ⟨rfl, hd⟩
  exact ⟨rfl, hd⟩
end Go.Proofs.Ytdoomkcgdcfmlaa.Print
end
section
namespace Go.Proofs.Ytdoomkcgdcfmlaa.Print
open Go.RowKit Go.Proofs.YtdoomkcgdcfmlaaW.PrintWords Go.Proofs.YtdoomkcgdcfmlaaW.PrintLast Go.Proofs.YtdoomkcgdcfmlaaW.PrintMore
set_option linter.unusedVariables false
set_option linter.unusedSimpArgs false
open Oml
def sfx (s : ByteArray) (i : Nat) : ByteArray := s.extract i s.size
theorem sfx_size (s : ByteArray) (i : Nat) : (sfx s i).size = s.size - i := by unfold sfx; rw [ByteArray.size_extract]; omega
theorem sfx_zero (s : ByteArray) : sfx s 0 = s := by unfold sfx; exact ByteArray.extract_zero_size
theorem sfx_next (s : ByteArray) {i : Nat} (h : i < s.size) : (sfx s i).extract 1 (sfx s i).size = sfx s (i + 1) := by
  rw [sfx_size]
  unfold sfx
  rw [ByteArray.extract_extract]
  congr 1
  omega
theorem sfx_bt (s : ByteArray) {i : Nat} (h : i < s.size) : bt (sfx s i) 0 = bt s (i : Int) := by
  have h1 : 0 < (sfx s i).size := by rw [sfx_size]; omega
  have e1 := bt_at (sfx s i) 0 h1
  have e2 := bt_at s (i : Int) (by rw [Int.toNat_natCast]; exact h)
  rw [← e1, ← e2]
  have e3 : (sfx s i)[0]'h1 = s[i] := by
    have h3 : 0 < (s.extract i s.size).size := h1
    have h4 : (s.extract i s.size)[0]'h3 = s[i + 0] := ByteArray.getElem_extract h3
    exact h4
  have e4 : (s[((i : Nat) : Int).toNat]'(by rw [Int.toNat_natCast]; exact h)) = s[i] := by congr 1
  rw [e4, ← e3]
  rfl
theorem rdF_sfx (s : ByteArray) : ∀ (k i : Nat) (f : Fm) (r : ByteArray), i ≤ s.size → rdF k (sfx s i) = some (f, r) → ∃ j, i < j ∧ j ≤ s.size ∧ r = sfx s j
  | 0, _, _, _, _, h => by simp [rdF] at h
  | k + 1, i, f, r, hi, h => by
    have ih := rdF_sfx s k
    simp only [rdF] at h
    split at h
    · cases h
    · rename_i h0
      rw [sfx_size] at h0
      have hlt : i < s.size := by omega
      rw [sfx_next s hlt] at h
      split at h
      · cases h; exact ⟨i + 1, by omega, by omega, rfl⟩
      · split at h
        · split at h
          · cases h
          · rename_i f1 r1 h1
            cases h
            obtain ⟨j, a, b, c⟩ := ih (i + 1) _ _ (by omega) h1
            exact ⟨j, by omega, b, c⟩
        · split at h
          · split at h
            · cases h
            · rename_i f1 r1 h1
              obtain ⟨j, a, b, rfl⟩ := ih (i + 1) _ _ (by omega) h1
              split at h
              · cases h
              · rename_i h2
                rw [sfx_size] at h2
                rw [sfx_next s (by omega)] at h
                split at h
                · split at h
                  · cases h
                  · rename_i g q h3
                    obtain ⟨m, a2, b2, rfl⟩ := ih (j + 1) _ _ (by omega) h3
                    split at h
                    · cases h
                    · rename_i h4
                      rw [sfx_size] at h4
                      rw [sfx_next s (by omega)] at h
                      split at h
                      · cases h; exact ⟨m + 1, by omega, by omega, rfl⟩
                      · cases h
                · cases h
          · cases h
def endV (s : ByteArray) (o : Option (Fm × ByteArray)) : Int := match o with | none => -1 | some (_, r) => ((s.size - r.size : Nat) : Int)
theorem rdF_leaf {k : Nat} {s : ByteArray} {i : Nat} (h : i < s.size) (hl : isLeaf (bt s i)) : rdF (k + 1) (sfx s i) = some (.leaf (bt s i), sfx s (i + 1)) := by
  simp only [rdF]
  rw [if_neg (by rw [sfx_size]; omega), sfx_bt s h, if_pos hl, sfx_next s h]
theorem rdF_neg {k : Nat} {s : ByteArray} {i : Nat} (h : i < s.size) (hc : bt s i = 33) : rdF (k + 1) (sfx s i) = (rdF k (sfx s (i + 1))).map fun fr => (.neg fr.1, fr.2) := by
  simp only [rdF]
  rw [if_neg (by rw [sfx_size]; omega), sfx_bt s h, if_neg (by rw [hc]; unfold isLeaf; omega), if_pos hc, sfx_next s h]
  cases rdF k (sfx s (i + 1)) <;> rfl
theorem rdF_par {k : Nat} {s : ByteArray} {i : Nat} (h : i < s.size) (hc : bt s i = 40) : rdF (k + 1) (sfx s i) = (rdF k (sfx s (i + 1))).bind fun fr => if fr.2.size = 0 then none else if bt fr.2 0 = 38 ∨ bt fr.2 0 = 124 then (rdF k (fr.2.extract 1 fr.2.size)).bind fun gq => if gq.2.size = 0 then none else if bt gq.2 0 = 41 then some (.bin (bt fr.2 0) fr.1 gq.1, gq.2.extract 1 gq.2.size) else none else none := by
  simp only [rdF]
  rw [if_neg (by rw [sfx_size]; omega), sfx_bt s h, if_neg (by rw [hc]; unfold isLeaf; omega), if_neg (by rw [hc]; omega), if_pos hc, sfx_next s h]
  rcases rdF k (sfx s (i + 1)) with _ | ⟨f, r⟩
  · rfl
  simp only [Option.bind_some]
  split
  · rfl
  split
  · rcases rdF k (r.extract 1 r.size) with _ | ⟨g, q⟩ <;> rfl
  · rfl
theorem rdF_other {k : Nat} {s : ByteArray} {i : Nat} (h : i < s.size) (hl : ¬ isLeaf (bt s i)) (h1 : ¬ bt s i = 33) (h2 : ¬ bt s i = 40) : rdF (k + 1) (sfx s i) = none := by
  simp only [rdF]
  rw [if_neg (by rw [sfx_size]; omega), sfx_bt s h, if_neg hl, if_neg h1, if_neg h2]
theorem rdF_end {k : Nat} {s : ByteArray} {i : Nat} (h : s.size ≤ i) : rdF k (sfx s i) = none := by
  cases k with
  | zero => rfl
  | succ k => simp only [rdF]; rw [if_pos (by rw [sfx_size]; omega)]
theorem l10End_j1 (s : ByteArray) (hs : s.size ≤ 1000000) (j : Nat) (V : Int) (hj : j < s.size) (hev : Ev (fun m => spec_l10End.f m s ((j + 1 : Nat) : Int)) V) (hV : V = -1 ∨ ∃ m : Nat, V = (m : Int)) :
    Ev (fun m => spec_l10End.j1 m s (j : Int) false) (if 0 ≤ V ∧ V < (s.size : Int) ∧ bt s V = 41 then V + 1 else -1) := by
  refine Ev.succ ?_
  simp only [spec_l10End.j1, wrap_nat (show j < 4611686018427387904 by omega)]
  repeat (first | ((with_reducible refine Ev.ite_pos ?_ ?_); (first | assumption | (focus omega) | (focus (simp; done)))) | ((with_reducible refine Ev.ite_neg ?_ ?_); (first | assumption | (focus omega) | (focus (simp; done)))))
  refine Ev.bind hev ?_
  rcases hV with rfl | ⟨m, rfl⟩
  · repeat (first | ((with_reducible refine Ev.ite_pos ?_ ?_); (first | assumption | (focus omega) | (focus (simp; done)))) | ((with_reducible refine Ev.ite_neg ?_ ?_); (first | assumption | (focus omega) | (focus (simp; done)))))
    exact Ev.now _
  · by_cases h1 : m < s.size
    · by_cases h2 : bt s (m : Int) = 41
      · repeat (first | ((with_reducible refine Ev.ite_pos ?_ ?_); (first | assumption | (focus omega) | (focus (simp; done)))) | ((with_reducible refine Ev.ite_neg ?_ ?_); (first | assumption | (focus omega) | (focus (simp; done)))))
        rw [if_pos ⟨by omega, by omega, h2⟩, wrap_nat (show m < 4611686018427387904 by omega)]
        exact Ev.now _
      · repeat (first | ((with_reducible refine Ev.ite_pos ?_ ?_); (first | assumption | (focus omega) | (focus (simp; done)))) | ((with_reducible refine Ev.ite_neg ?_ ?_); (first | assumption | (focus omega) | (focus (simp; done)))))
        rw [if_neg (fun h => h2 h.2.2)]
        exact Ev.now _
    · repeat (first | ((with_reducible refine Ev.ite_pos ?_ ?_); (first | assumption | (focus omega) | (focus (simp; done)))) | ((with_reducible refine Ev.ite_neg ?_ ?_); (first | assumption | (focus omega) | (focus (simp; done)))))
      rw [if_neg (fun h => h1 (by omega))]
      exact Ev.now _
theorem l10End_ev (s : ByteArray) (hs : s.size ≤ 1000000) : ∀ k i, i ≤ s.size → s.size - i ≤ k → Ev (fun m => spec_l10End.f m s (i : Int)) (endV s (rdF k (sfx s i))) := by
  intro k
  induction k with
  | zero =>
    intro i hi hk
    rw [rdF_end (by omega)]
    refine Ev.succ ?_
    simp only [spec_l10End.f]
    repeat (first | ((with_reducible refine Ev.ite_pos ?_ ?_); (first | assumption | (focus omega) | (focus (simp; done)))) | ((with_reducible refine Ev.ite_neg ?_ ?_); (first | assumption | (focus omega) | (focus (simp; done)))))
    exact Ev.now _
  | succ k ih =>
    intro i hi hk
    by_cases hlt : i < s.size
    · have hw : wrap64 ((i : Int) + 1) = ((i + 1 : Nat) : Int) := wrap_nat (by omega)
      by_cases hl : isLeaf (bt s i)
      · rw [rdF_leaf hlt hl]
        have hv : endV s (some (Fm.leaf (bt s i), sfx s (i + 1))) = ((i + 1 : Nat) : Int) := by
          show ((s.size - (sfx s (i + 1)).size : Nat) : Int) = _
          rw [sfx_size]; omega
        rw [hv]
        have J : ∀ c, Ev (fun m => spec_l10End.j0 m s (i : Int) c true) ((i + 1 : Nat) : Int) := by
          intro c
          refine Ev.succ ?_
          simp only [spec_l10End.j0, hw]
          repeat (first | ((with_reducible refine Ev.ite_pos ?_ ?_); (first | assumption | (focus omega) | (focus (simp; done)))) | ((with_reducible refine Ev.ite_neg ?_ ?_); (first | assumption | (focus omega) | (focus (simp; done)))))
          exact Ev.now _
        refine Ev.succ ?_
        simp only [spec_l10End.f]
        repeat (first | ((with_reducible refine Ev.ite_pos ?_ ?_); (first | assumption | (focus omega) | (focus (simp; done)))) | ((with_reducible refine Ev.ite_neg ?_ ?_); (first | assumption | (focus omega) | (focus (simp; done)))))
        unfold isLeaf at hl
        by_cases h97 : bt s (i : Int) = 97
        · repeat (first | ((with_reducible refine Ev.ite_pos ?_ ?_); (first | assumption | (focus omega) | (focus (simp; done)))) | ((with_reducible refine Ev.ite_neg ?_ ?_); (first | assumption | (focus omega) | (focus (simp; done)))))
          rw [show (bt s (i : Int) == 97) = true by rw [h97]; rfl]; exact J _
        by_cases h98 : bt s (i : Int) = 98
        · repeat (first | ((with_reducible refine Ev.ite_pos ?_ ?_); (first | assumption | (focus omega) | (focus (simp; done)))) | ((with_reducible refine Ev.ite_neg ?_ ?_); (first | assumption | (focus omega) | (focus (simp; done)))))
          rw [show (bt s (i : Int) == 98) = true by rw [h98]; rfl]; exact J _
        by_cases h99 : bt s (i : Int) = 99
        · repeat (first | ((with_reducible refine Ev.ite_pos ?_ ?_); (first | assumption | (focus omega) | (focus (simp; done)))) | ((with_reducible refine Ev.ite_neg ?_ ?_); (first | assumption | (focus omega) | (focus (simp; done)))))
          rw [show (bt s (i : Int) == 99) = true by rw [h99]; rfl]; exact J _
        by_cases h48 : bt s (i : Int) = 48
        · repeat (first | ((with_reducible refine Ev.ite_pos ?_ ?_); (first | assumption | (focus omega) | (focus (simp; done)))) | ((with_reducible refine Ev.ite_neg ?_ ?_); (first | assumption | (focus omega) | (focus (simp; done)))))
          rw [show (bt s (i : Int) == 48) = true by rw [h48]; rfl]; exact J _
        have h49 : bt s (i : Int) = 49 := by omega
        repeat (first | ((with_reducible refine Ev.ite_pos ?_ ?_); (first | assumption | (focus omega) | (focus (simp; done)))) | ((with_reducible refine Ev.ite_neg ?_ ?_); (first | assumption | (focus omega) | (focus (simp; done)))))
        rw [show (bt s (i : Int) == 49) = true by rw [h49]; rfl]; exact J _
      · have go : ∀ V, Ev (fun m => spec_l10End.j0 m s (i : Int) (bt s (i : Int)) false) V → Ev (fun m => spec_l10End.f m s (i : Int)) V := by
          intro V hV
          refine Ev.succ ?_
          simp only [spec_l10End.f]
          unfold isLeaf at hl
          have h97 : ¬ bt s (i : Int) = 97 := fun e => hl (by omega)
          have h98 : ¬ bt s (i : Int) = 98 := fun e => hl (by omega)
          have h99 : ¬ bt s (i : Int) = 99 := fun e => hl (by omega)
          have h48 : ¬ bt s (i : Int) = 48 := fun e => hl (by omega)
          have h49 : (bt s (i : Int) == 49) = false := beq_eq_false_iff_ne.2 fun e => hl (by omega)
          repeat (first | ((with_reducible refine Ev.ite_pos ?_ ?_); (first | assumption | (focus omega) | (focus (simp; done)))) | ((with_reducible refine Ev.ite_neg ?_ ?_); (first | assumption | (focus omega) | (focus (simp; done)))))
          rw [h49]
          exact hV
        refine go _ (Ev.succ ?_)
        simp only [spec_l10End.j0, hw]
        have hI := ih (i + 1) (by omega) (by omega)
        by_cases h33 : bt s (i : Int) = 33
        · rw [rdF_neg hlt h33]
          repeat (first | ((with_reducible refine Ev.ite_pos ?_ ?_); (first | assumption | (focus omega) | (focus (simp; done)))) | ((with_reducible refine Ev.ite_neg ?_ ?_); (first | assumption | (focus omega) | (focus (simp; done)))))
          refine Ev.bind hI ?_
          refine Ev.eq (Ev.now _) ?_
          cases rdF k (sfx s (i + 1)) <;> rfl
        · by_cases h40 : bt s (i : Int) = 40
          · rw [rdF_par hlt h40]
            repeat (first | ((with_reducible refine Ev.ite_pos ?_ ?_); (first | assumption | (focus omega) | (focus (simp; done)))) | ((with_reducible refine Ev.ite_neg ?_ ?_); (first | assumption | (focus omega) | (focus (simp; done)))))
            refine Ev.bind hI ?_
            have hsx := rdF_sfx s k (i + 1)
            rcases hrd : rdF k (sfx s (i + 1)) with _ | ⟨f, r⟩
            · have e1 : endV s none < 0 := by show (-1 : Int) < 0; omega
              repeat (first | ((with_reducible refine Ev.ite_pos ?_ ?_); (first | assumption | (focus omega) | (focus (simp; done)))) | ((with_reducible refine Ev.ite_neg ?_ ?_); (first | assumption | (focus omega) | (focus (simp; done)))))
              refine Ev.succ ?_
              simp only [spec_l10End.j1]
              repeat (first | ((with_reducible refine Ev.ite_pos ?_ ?_); (first | assumption | (focus omega) | (focus (simp; done)))) | ((with_reducible refine Ev.ite_neg ?_ ?_); (first | assumption | (focus omega) | (focus (simp; done)))))
              exact Ev.now _
            · obtain ⟨j, ha, hb, rfl⟩ := hsx f r (by omega) hrd
              have e1 : endV s (some (f, sfx s j)) = (j : Int) := by
                show ((s.size - (sfx s j).size : Nat) : Int) = _
                rw [sfx_size]; omega
              rw [e1]
              simp only [Option.bind_some]
              by_cases hj : j < s.size
              · rw [if_neg (by rw [sfx_size]; omega), sfx_bt s hj, sfx_next s hj]
                repeat (first | ((with_reducible refine Ev.ite_pos ?_ ?_); (first | assumption | (focus omega) | (focus (simp; done)))) | ((with_reducible refine Ev.ite_neg ?_ ?_); (first | assumption | (focus omega) | (focus (simp; done)))))
                have hJ := ih (j + 1) (by omega) (by omega)
                have hsx2 := rdF_sfx s k (j + 1)
                have hval : (∀ ob : Option (Fm × ByteArray), rdF k (sfx s (j + 1)) = ob → Ev (fun m => spec_l10End.j1 m s (j : Int) false) (endV s (ob.bind fun gq => if gq.2.size = 0 then none else if bt gq.2 0 = 41 then some (Fm.bin (bt s j) f gq.1, gq.2.extract 1 gq.2.size) else none))) := by
                  intro ob hob
                  rw [hob] at hJ hsx2
                  cases ob with
                  | none =>
                    refine Ev.eq (l10End_j1 s hs j (endV s none) hj hJ (.inl rfl)) ?_
                    rw [if_neg (fun h => by have : (0 : Int) ≤ -1 := h.1; omega)]; rfl
                  | some gq =>
                    obtain ⟨g, q⟩ := gq
                    obtain ⟨m, hc, hd, rfl⟩ := hsx2 g q (by omega) rfl
                    have e2 : endV s (some (g, sfx s m)) = (m : Int) := by
                      show ((s.size - (sfx s m).size : Nat) : Int) = _
                      rw [sfx_size]; omega
                    rw [e2] at hJ
                    refine Ev.eq (l10End_j1 s hs j (m : Int) hj hJ (.inr ⟨m, rfl⟩)) ?_
                    simp only [Option.bind_some]
                    by_cases hm : m < s.size
                    · rw [if_neg (show ¬ (sfx s m).size = 0 by rw [sfx_size]; omega), sfx_bt s hm, sfx_next s hm]
                      by_cases h41 : bt s (m : Int) = 41
                      · rw [if_pos ⟨by omega, by omega, h41⟩, if_pos h41]
                        show (m : Int) + 1 = ((s.size - (sfx s (m + 1)).size : Nat) : Int)
                        rw [sfx_size]; omega
                      · rw [if_neg (fun h => h41 h.2.2), if_neg h41]; rfl
                    · rw [if_neg (fun h => hm (by omega)), if_pos (by rw [sfx_size]; omega)]; rfl
                by_cases h38 : bt s (j : Int) = 38
                · rw [if_pos (.inl h38)]
                  repeat (first | ((with_reducible refine Ev.ite_pos ?_ ?_); (first | assumption | (focus omega) | (focus (simp; done)))) | ((with_reducible refine Ev.ite_neg ?_ ?_); (first | assumption | (focus omega) | (focus (simp; done)))))
                  exact hval _ rfl
                · by_cases h124 : bt s (j : Int) = 124
                  · rw [if_pos (.inr h124)]
                    repeat (first | ((with_reducible refine Ev.ite_pos ?_ ?_); (first | assumption | (focus omega) | (focus (simp; done)))) | ((with_reducible refine Ev.ite_neg ?_ ?_); (first | assumption | (focus omega) | (focus (simp; done)))))
                    rw [show (bt s (j : Int) != 124) = false by rw [h124]; rfl]
                    exact hval _ rfl
                  · rw [if_neg (fun h => h.elim h38 h124)]
                    repeat (first | ((with_reducible refine Ev.ite_pos ?_ ?_); (first | assumption | (focus omega) | (focus (simp; done)))) | ((with_reducible refine Ev.ite_neg ?_ ?_); (first | assumption | (focus omega) | (focus (simp; done)))))
                    rw [show (bt s (j : Int) != 124) = true from bne_iff_ne.2 h124]
                    refine Ev.succ ?_
                    simp only [spec_l10End.j1]
                    repeat (first | ((with_reducible refine Ev.ite_pos ?_ ?_); (first | assumption | (focus omega) | (focus (simp; done)))) | ((with_reducible refine Ev.ite_neg ?_ ?_); (first | assumption | (focus omega) | (focus (simp; done)))))
                    exact Ev.now _
              · rw [if_pos (by rw [sfx_size]; omega)]
                repeat (first | ((with_reducible refine Ev.ite_pos ?_ ?_); (first | assumption | (focus omega) | (focus (simp; done)))) | ((with_reducible refine Ev.ite_neg ?_ ?_); (first | assumption | (focus omega) | (focus (simp; done)))))
                refine Ev.succ ?_
                simp only [spec_l10End.j1]
                repeat (first | ((with_reducible refine Ev.ite_pos ?_ ?_); (first | assumption | (focus omega) | (focus (simp; done)))) | ((with_reducible refine Ev.ite_neg ?_ ?_); (first | assumption | (focus omega) | (focus (simp; done)))))
                exact Ev.now _
          · rw [rdF_other hlt hl h33 h40]
            repeat (first | ((with_reducible refine Ev.ite_pos ?_ ?_); (first | assumption | (focus omega) | (focus (simp; done)))) | ((with_reducible refine Ev.ite_neg ?_ ?_); (first | assumption | (focus omega) | (focus (simp; done)))))
            exact Ev.now _
    · rw [rdF_end (by omega)]
      refine Ev.succ ?_
      simp only [spec_l10End.f]
      repeat (first | ((with_reducible refine Ev.ite_pos ?_ ?_); (first | assumption | (focus omega) | (focus (simp; done)))) | ((with_reducible refine Ev.ite_neg ?_ ?_); (first | assumption | (focus omega) | (focus (simp; done)))))
      exact Ev.now _
theorem spec_FormulaOk.ev (s : ByteArray) : Ev (fun k => spec_FormulaOk.f k s) (fmOf s).isSome := by
  unfold spec_FormulaOk.f fmOf
  by_cases h : 60 < s.size
  · rw [if_pos h]
    repeat (first | ((with_reducible refine Ev.ite_pos ?_ ?_); (first | assumption | (focus omega) | (focus (simp; done)))) | ((with_reducible refine Ev.ite_neg ?_ ?_); (first | assumption | (focus omega) | (focus (simp; done)))))
    exact Ev.now _
  · rw [if_neg h]
    by_cases h0 : s.size = 0
    · have hr : rdF s.size s = none := by rw [h0]; rfl
      rw [hr]
      repeat (first | ((with_reducible refine Ev.ite_pos ?_ ?_); (first | assumption | (focus omega) | (focus (simp; done)))) | ((with_reducible refine Ev.ite_neg ?_ ?_); (first | assumption | (focus omega) | (focus (simp; done)))))
      exact Ev.now _
    · repeat (first | ((with_reducible refine Ev.ite_pos ?_ ?_); (first | assumption | (focus omega) | (focus (simp; done)))) | ((with_reducible refine Ev.ite_neg ?_ ?_); (first | assumption | (focus omega) | (focus (simp; done)))))
      have hE := l10End_ev s (by omega) s.size 0 (by omega) (by omega)
      have hsx := rdF_sfx s s.size 0
      rw [sfx_zero] at hE hsx
      refine Ev.bind hE ?_
      rcases hrd : rdF s.size s with _ | ⟨f, r⟩
      · refine Ev.eq (Ev.now _) ?_
        show ((-1 : Int) == (s.size : Int)) = false
        rw [beq_eq_false_iff_ne]; omega
      · obtain ⟨j, ha, hb, rfl⟩ := hsx f r (by omega) hrd
        refine Ev.eq (Ev.now _) ?_
        show (((s.size - (sfx s j).size : Nat) : Int) == (s.size : Int)) = (if (sfx s j).size = 0 then some f else none).isSome
        rw [sfx_size]
        by_cases hj : j = s.size
        · rw [if_pos (by omega)]
          show _ = true
          rw [beq_iff_eq]; omega
        · rw [if_neg (by omega)]
          show _ = false
          rw [beq_eq_false_iff_ne]; omega
end Go.Proofs.Ytdoomkcgdcfmlaa.Print
end
section
namespace Go.Proofs.Ytdoomkcgdcfmlaa.Print
open Go.RowKit Go.Proofs.YtdoomkcgdcfmlaaW.PrintWords Go.Proofs.YtdoomkcgdcfmlaaW.PrintLast Go.Proofs.YtdoomkcgdcfmlaaW.PrintMore
set_option linter.unusedVariables false
set_option linter.unusedSimpArgs false
open Oml
def Bytes (b : List Int) : Prop := ∀ x ∈ b, 0 ≤ x ∧ x ≤ 255
theorem bytes_rd {b : List Int} (h : Bytes b) (i : Int) : 0 ≤ rd b i ∧ rd b i ≤ 255 := by
  by_cases hi : i.toNat < b.length
  · have e : rd b i = b[i.toNat] := by
      show b.getD i.toNat 0 = _
      rw [List.getD_eq_getElem?_getD, List.getElem?_eq_getElem hi]; rfl
    rw [e]
    exact h _ (List.getElem_mem hi)
  · have e : rd b i = 0 := by
      show b.getD i.toNat 0 = _
      rw [List.getD_eq_getElem?_getD, List.getElem?_eq_none (by omega)]; rfl
    rw [e]; omega
theorem ofInt_nat' (a : Nat) (ha : a < 18446744073709551616) : (BitVec.ofInt 64 (a : Int)).toNat = a := by
  rw [BitVec.ofInt_natCast, BitVec.toNat_ofNat]; exact Nat.mod_eq_of_lt (by omega)
theorem bxor_nat (a b : Nat) (ha : a < 4611686018427387904) (hb : b < 4611686018427387904) : Go.bits .xor .i64 (a : Int) (b : Int) = ((a ^^^ b : Nat) : Int) := by
  have hx : a ^^^ b < 2 ^ 62 := Nat.xor_lt_two_pow (by omega) (by omega)
  show IntKind.i64.wrap ((BitVec.ofInt 64 (a : Int) ^^^ BitVec.ofInt 64 (b : Int)).toNat : Int) = _
  rw [BitVec.toNat_xor, ofInt_nat' a (by omega), ofInt_nat' b (by omega), i64_w]
  unfold wrap64; omega
theorem pick_mod {x n : Int} (hx : 0 ≤ x) (hn : 1 ≤ n) : 0 ≤ Int.tmod x n ∧ Int.tmod x n < n := by
  rw [Int.tmod_eq_emod_of_nonneg hx]
  exact ⟨Int.emod_nonneg _ (by omega), Int.emod_lt_of_pos _ (by omega)⟩
theorem wrap_pos {x : Int} (h : 0 ≤ x) (h2 : x ≤ 4611686018427387904) : wrap64 x = x := by unfold wrap64; omega
theorem pick_ev {b : List Int} (hb : Bytes b) (hl : b.length ≤ 2000) {p : Int} (h0 : 0 ≤ p) (h1 : p ≤ 1000000000) (n : Int) : ∃ v, Ev (fun k => spec_l20Rd_pick.f k b p n) (v, p + 1) ∧ 0 ≤ v ∧ (1 ≤ n → v < n) := by
  have w1 : wrap64 (p + 1) = p + 1 := wrap_pos (by omega) (by omega)
  have w2 : wrap64 (p + 1 - 1) = p := by rw [Int.add_sub_cancel]; exact wrap_pos (by omega) (by omega)
  have hz : Ev (fun k => spec_l20Rd_pick.j0 k n true b (p + 1)) (0, p + 1) := by
    refine Ev.succ ?_
    simp only [spec_l20Rd_pick.j0]
    repeat (first | ((with_reducible refine Ev.ite_pos ?_ ?_); (first | assumption | (focus omega) | (focus (simp; done)))) | ((with_reducible refine Ev.ite_neg ?_ ?_); (first | assumption | (focus omega) | (focus (simp; done)))))
    exact Ev.now _
  unfold spec_l20Rd_pick.f
  rw [w1]
  by_cases hn : n < 1
  · exact ⟨0, Ev.ite_pos hn hz, by omega, fun h => by omega⟩
  by_cases hlen : b.length = 0
  · refine ⟨0, Ev.ite_neg hn ?_, by omega, fun h => by omega⟩
    rw [show ((b.length : Int) == 0) = true by rw [hlen]; rfl]
    exact hz
  have hbf : ((b.length : Int) == 0) = false := by rw [beq_eq_false_iff_ne]; omega
  by_cases hp : p < (b.length : Int)
  · obtain ⟨r0, r1⟩ := bytes_rd hb p
    have hm := pick_mod (x := rd b p) (n := n) r0 (by omega)
    refine ⟨Int.tmod (rd b p) n, Ev.ite_neg hn ?_, hm.1, fun _ => hm.2⟩
    rw [hbf]
    refine Ev.succ ?_
    simp only [spec_l20Rd_pick.j0, w2]
    rw [wrap_pos (x := rd b p) r0 (by omega)]
    refine Ev.ite_neg (by simp) (Ev.ite_pos hp (Ev.ite_pos h0 (Ev.ite_neg (by omega) (Ev.now _))))
  · have m1 := pick_mod (x := p) (n := (b.length : Int)) h0 (by omega)
    have w3 : wrap64 (wrap64 (p * 7) + 3) = p * 7 + 3 := by
      rw [wrap_pos (x := p * 7) (by omega) (by omega)]
      exact wrap_pos (by omega) (by omega)
    have m2 := pick_mod (x := p * 7 + 3) (n := (b.length : Int)) (by omega) (by omega)
    obtain ⟨a0, a1⟩ := bytes_rd hb (Int.tmod p b.length)
    obtain ⟨c0, c1⟩ := bytes_rd hb (Int.tmod (p * 7 + 3) b.length)
    have hd : 0 ≤ Int.tdiv p b.length ∧ Int.tdiv p b.length ≤ p := by
      rw [Int.tdiv_eq_ediv_of_nonneg h0]
      exact ⟨Int.ediv_nonneg h0 (by omega), Int.ediv_le_self _ h0⟩
    generalize hA : rd b (Int.tmod p b.length) = A at a0 a1
    generalize hC : rd b (Int.tmod (p * 7 + 3) b.length) = C at c0 c1
    generalize hD : Int.tdiv p b.length = D at hd
    obtain ⟨x, hx⟩ : ∃ x : Nat, A * 131 + C * 1117 + p * 29 + D * 53 = (x : Int) := ⟨(A * 131 + C * 1117 + p * 29 + D * 53).toNat, by omega⟩
    have hx2 : x ≤ 1000000000000 := by omega
    obtain ⟨y, hy⟩ : ∃ y : Nat, Int.tdiv (x : Int) 64 = (y : Int) := ⟨x / 64, by rw [Int.tdiv_eq_ediv_of_nonneg (by omega)]; omega⟩
    have hy2 : y ≤ 1000000000000 := by
      have : Int.tdiv (x : Int) 64 ≤ x := by rw [Int.tdiv_eq_ediv_of_nonneg (by omega)]; omega
      omega
    have hm := pick_mod (x := ((x ^^^ y : Nat) : Int)) (n := n) (by omega) (by omega)
    refine ⟨Int.tmod ((x ^^^ y : Nat) : Int) n, Ev.ite_neg hn ?_, hm.1, fun _ => hm.2⟩
    rw [hbf]
    refine Ev.succ ?_
    simp only [spec_l20Rd_pick.j0, w2, w3, hA, hC, hD]
    rw [wrap_pos (x := A) a0 (by omega), wrap_pos (x := C) c0 (by omega), wrap_pos (x := A * 131) (by omega) (by omega), wrap_pos (x := C * 1117) (by omega) (by omega), wrap_pos (x := A * 131 + C * 1117) (by omega) (by omega), wrap_pos (x := p * 29) (by omega) (by omega), wrap_pos (x := A * 131 + C * 1117 + p * 29) (by omega) (by omega), wrap_pos (x := D) hd.1 (by omega), wrap_pos (x := D * 53) (by omega) (by omega), wrap_pos (x := A * 131 + C * 1117 + p * 29 + D * 53) (by omega) (by omega), hx, hy, wrap_pos (x := (y : Int)) (by omega) (by omega), bxor_nat x y (by omega) (by omega)]
    exact Ev.ite_neg (by simp) (Ev.ite_neg hp (Ev.ite_neg (by omega) (Ev.ite_pos m1.1 (Ev.ite_pos m1.2 (Ev.ite_pos m2.1 (Ev.ite_pos m2.2 (Ev.ite_neg (by omega) (Ev.now _))))))))
theorem odd_ev {b : List Int} (hb : Bytes b) (hl : b.length ≤ 2000) {p : Int} (h0 : 0 ≤ p) (h1 : p ≤ 1000000000) (n : Int) : ∃ v q, Ev (fun k => spec_l20Rd_odd.f k b p n) (v, q) ∧ p ≤ q ∧ q ≤ p + 1 := by
  unfold spec_l20Rd_odd.f
  by_cases hn : n > 0
  · obtain ⟨v, hv, _, _⟩ := pick_ev hb hl h0 h1 n
    exact ⟨_, _, Ev.ite_pos hn (Ev.bind hv (Ev.now _)), by omega, by omega⟩
  · exact ⟨_, _, Ev.ite_neg hn (Ev.now _), by omega, by omega⟩
theorem open_ev {l : List Int} (h : Bytes l) : ∃ b, Bytes b ∧ b.length ≤ 2000 ∧ spec_l20Open.f l = some (b, 0) := by
  unfold spec_l20Open.f
  by_cases hl : (l.length : Int) > 2000
  · rw [if_pos hl, if_pos (by omega)]
    exact ⟨l.take 2000, fun x hx => h x (List.mem_of_mem_take hx), by rw [List.length_take]; omega, rfl⟩
  · rw [if_neg hl]
    exact ⟨l, h, by omega, rfl⟩
end Go.Proofs.Ytdoomkcgdcfmlaa.Print
end
section
namespace Go.Proofs.Ytdoomkcgdcfmlaa.Print
open Go.RowKit Go.Proofs.YtdoomkcgdcfmlaaW.PrintWords Go.Proofs.YtdoomkcgdcfmlaaW.PrintLast Go.Proofs.YtdoomkcgdcfmlaaW.PrintMore
set_option linter.unusedVariables false
set_option linter.unusedSimpArgs false
open Oml
def costF : Nat → Nat
  | 0 => 10
  | d + 1 => 2 * costF d + 10
theorem rdOf_size {xs : List ByteArray} {lo hi : Nat} (h : ∀ x ∈ xs, lo ≤ x.size ∧ x.size ≤ hi) {i : Int} (h0 : 0 ≤ i) (h1 : i < (xs.length : Int)) : lo ≤ (rdOf ByteArray.empty xs i).size ∧ (rdOf ByteArray.empty xs i).size ≤ hi := by
  have hi' : i.toNat < xs.length := by omega
  have e : rdOf ByteArray.empty xs i = xs[i.toNat] := by
    unfold rdOf
    rw [List.getD_eq_getElem?_getD, List.getElem?_eq_getElem hi']; rfl
  rw [e]
  exact h _ (List.getElem_mem hi')
theorem wrap_pred (d : Nat) (h : d ≤ 10) : wrap64 (((d + 1 : Nat) : Int) - 1) = (d : Int) := by
  rw [show ((d + 1 : Nat) : Int) - 1 = (d : Int) by omega]
  exact wrap_pos (by omega) (by omega)
theorem formula_ev {b : List Int} (hb : Bytes b) (hl : b.length ≤ 2000) : ∀ (d : Nat), d ≤ 3 → ∀ p : Int, 0 ≤ p → p + ((1000 * d : Nat) : Int) ≤ 900000000 → ∃ s q, Ev (fun k => spec_l20Formula.f k b p (d : Int)) (s, q) ∧ p ≤ q ∧ q ≤ p + (costF d : Nat) ∧ 1 ≤ s.size ∧ s.size ≤ costF d := by
  have leaf : ∀ (d : Int) (p : Int), 0 ≤ p → p ≤ 999999990 → ∃ s q, Ev (fun k => spec_l20Formula.j0 k d true b p) (s, q) ∧ p ≤ q ∧ q ≤ p + 1 ∧ 1 ≤ s.size ∧ s.size ≤ 1 := by
    intro d p h0 h1
    obtain ⟨v, hv, v0, v1⟩ := pick_ev hb hl h0 (by omega) 7
    have v2 := v1 (by omega)
    have hs := rdOf_size (xs := [(⟨#[97]⟩ : ByteArray), (⟨#[98]⟩ : ByteArray), (⟨#[97]⟩ : ByteArray), (⟨#[98]⟩ : ByteArray), (⟨#[99]⟩ : ByteArray), (⟨#[49]⟩ : ByteArray), (⟨#[48]⟩ : ByteArray)]) (lo := 1) (hi := 1) (i := v) (by
      intro x hx
      simp only [List.mem_cons, List.not_mem_nil, or_false] at hx
      rcases hx with rfl | rfl | rfl | rfl | rfl | rfl | rfl <;> exact ⟨Nat.le_refl 1, Nat.le_refl 1⟩) v0 (by show v < 7; exact v2)
    refine ⟨_, p + 1, Ev.succ ?_, by omega, by omega, hs.1, hs.2⟩
    simp only [spec_l20Formula.j0]
    refine Ev.ite_pos (by simp) (Ev.pbind rfl (Ev.bind hv (Ev.ite_pos v0 (Ev.ite_pos ?_ (Ev.now _)))))
    show v < 7
    exact v2
  intro d
  induction d with
  | zero =>
    intro _ p h0 h1
    obtain ⟨s, q, hs, q0, q1, s0, s1⟩ := leaf 0 p h0 (by omega)
    refine ⟨s, q, Ev.succ ?_, q0, by show q ≤ p + 10; omega, s0, by show s.size ≤ 10; omega⟩
    simp only [spec_l20Formula.f]
    exact Ev.ite_pos rfl hs
  | succ d ih =>
    intro hd p h0 h1
    have hc : costF (d + 1) = 2 * costF d + 10 := rfl
    have hc2 : costF d ≤ 70 := by
      rcases d with _ | _ | _ | d
      · decide
      · decide
      · decide
      · omega
    obtain ⟨v, hv, v0, v1⟩ := pick_ev hb hl h0 (by omega) 5
    have hne : ¬ (((d + 1 : Nat) : Int) = 0) := by omega
    by_cases hv0 : v = 0
    · obtain ⟨s, q, hs, q0, q1, s0, s1⟩ := leaf ((d + 1 : Nat) : Int) (p + 1) (by omega) (by omega)
      refine ⟨s, q, Ev.succ ?_, by omega, by omega, s0, by omega⟩
      simp only [spec_l20Formula.f]
      refine Ev.ite_neg hne (Ev.bind hv ?_)
      rw [show ((v, p + 1).1 == 0) = true from (by rw [hv0]; rfl : (v == 0) = true)]
      exact hs
    · have hvf : ((v, p + 1).1 == 0) = false := (by rw [beq_eq_false_iff_ne]; exact hv0 : (v == 0) = false)
      obtain ⟨u, hu, u0, u1⟩ := pick_ev hb hl (p := p + 1) (by omega) (by omega) 3
      obtain ⟨s, q, hs, q0, q1, s0, s1⟩ := ih (by omega) (p + 1 + 1) (by omega) (by omega)
      have hw := wrap_pred d (by omega)
      by_cases hu0 : u = 0
      · have e33 : ((⟨#[33]⟩ : ByteArray) ++ s).size = 1 + s.size := by rw [ByteArray.size_append]; rfl
        refine ⟨(⟨#[33]⟩ : ByteArray) ++ s, q, Ev.succ ?_, by omega, by omega, by omega, by omega⟩
        simp only [spec_l20Formula.f]
        refine Ev.ite_neg hne (Ev.bind hv ?_)
        rw [hvf]
        refine Ev.succ ?_
        simp only [spec_l20Formula.j0, hw]
        refine Ev.ite_neg (by simp) (Ev.bind hu (Ev.ite_pos hu0 (Ev.bind hs (Ev.ite_pos ?_ (Ev.now _)))))
        show 1 + s.size ≤ _
        omega
      · obtain ⟨x, hx, x0, x1⟩ := pick_ev hb hl (p := q) (by omega) (by omega) 2
        have x2 := x1 (by omega)
        obtain ⟨t, r, ht, r0, r1, t0, t1⟩ := ih (by omega) (q + 1) (by omega) (by omega)
        have hy := rdOf_size (xs := [(⟨#[38]⟩ : ByteArray), (⟨#[124]⟩ : ByteArray)]) (lo := 1) (hi := 1) (i := x) (by
          intro z hz
          simp only [List.mem_cons, List.not_mem_nil, or_false] at hz
          rcases hz with rfl | rfl <;> exact ⟨Nat.le_refl 1, Nat.le_refl 1⟩) x0 (by show x < 2; exact x2)
        have e40 : (⟨#[40]⟩ : ByteArray).size = 1 := rfl
        have e41 : (⟨#[41]⟩ : ByteArray).size = 1 := rfl
        have hz : (((((⟨#[40]⟩ : ByteArray) ++ s) ++ rdOf ByteArray.empty [(⟨#[38]⟩ : ByteArray), (⟨#[124]⟩ : ByteArray)] x) ++ t) ++ (⟨#[41]⟩ : ByteArray)).size = 1 + s.size + (rdOf ByteArray.empty [(⟨#[38]⟩ : ByteArray), (⟨#[124]⟩ : ByteArray)] x).size + t.size + 1 := by simp only [ByteArray.size_append, e40, e41]
        refine ⟨((((⟨#[40]⟩ : ByteArray) ++ s) ++ rdOf ByteArray.empty [(⟨#[38]⟩ : ByteArray), (⟨#[124]⟩ : ByteArray)] x) ++ t) ++ (⟨#[41]⟩ : ByteArray), r, Ev.succ ?_, by omega, by omega, by omega, by omega⟩
        · simp only [spec_l20Formula.f]
          refine Ev.ite_neg hne (Ev.bind hv ?_)
          rw [hvf]
          refine Ev.succ ?_
          simp only [spec_l20Formula.j0, hw]
          refine Ev.ite_neg (by simp) (Ev.bind hu (Ev.ite_neg hu0 (Ev.bind hs (Ev.ite_pos ?_ (Ev.pbind rfl (Ev.bind hx (Ev.ite_pos x0 (Ev.ite_pos ?_ (Ev.ite_pos ?_ (Ev.bind ht (Ev.ite_pos ?_ (Ev.ite_pos ?_ (Ev.now _)))))))))))))
          · show 1 + s.size ≤ _
            omega
          · show x < 2
            exact x2
          · simp only [ByteArray.size_append, e40]; omega
          · simp only [ByteArray.size_append, e40]; omega
          · simp only [ByteArray.size_append, e40]; omega
theorem formed_ev {b : List Int} (hb : Bytes b) (hl : b.length ≤ 2000) {p : Int} (h0 : 0 ≤ p) (h1 : p ≤ 800000000) (n : Int) : ∃ s q, Ev (fun k => spec_l20Formed.f k b p n) (s, q) ∧ p ≤ q ∧ q ≤ p + 200 ∧ s.size ≤ 200 := by
  have tail : ∀ (t : ByteArray) (p : Int), 1 ≤ t.size → t.size ≤ 150 → 0 ≤ p → p ≤ 900000000 → ∃ s q, Ev (fun k => spec_l20Formed.j0 k n t b p) (s, q) ∧ p ≤ q ∧ q ≤ p + 3 ∧ s.size ≤ 200 := by
    intro t p t0 t1 h0 h1
    obtain ⟨o, q, ho, q0, q1⟩ := odd_ev hb hl h0 (by omega) n
    cases o with
    | false =>
      refine ⟨t, q, Ev.succ ?_, q0, by omega, by omega⟩
      simp only [spec_l20Formed.j0]
      exact Ev.bind ho (Ev.ite_neg (by simp) (Ev.now _))
    | true =>
      obtain ⟨v, hv, v0, v1⟩ := pick_ev hb hl (p := q) (by omega) (by omega) (t.size : Int)
      have v2 := v1 (by omega)
      obtain ⟨u, hu, u0, u1⟩ := pick_ev hb hl (p := q + 1) (by omega) (by omega) 5
      have u2 := u1 (by omega)
      have hy := rdOf_size (xs := [(⟨#[]⟩ : ByteArray), (⟨#[40]⟩ : ByteArray), (⟨#[41]⟩ : ByteArray), (⟨#[100]⟩ : ByteArray), (⟨#[38]⟩ : ByteArray)]) (lo := 0) (hi := 1) (i := u) (by
        intro z hz
        simp only [List.mem_cons, List.not_mem_nil, or_false] at hz
        rcases hz with rfl | rfl | rfl | rfl | rfl
        · exact ⟨Nat.le_refl 0, Nat.zero_le 1⟩
        all_goals exact ⟨Nat.zero_le 1, Nat.le_refl 1⟩) u0 (by show u < 5; exact u2)
      have hw : wrap64 (v + 1) = v + 1 := wrap_pos (by omega) (by omega)
      have hz : (((t.extract 0 v.toNat) ++ rdOf ByteArray.empty [(⟨#[]⟩ : ByteArray), (⟨#[40]⟩ : ByteArray), (⟨#[41]⟩ : ByteArray), (⟨#[100]⟩ : ByteArray), (⟨#[38]⟩ : ByteArray)] u) ++ t.extract (v + 1).toNat t.size).size ≤ 200 := by simp only [ByteArray.size_append, ByteArray.size_extract]; omega
      refine ⟨((t.extract 0 v.toNat) ++ rdOf ByteArray.empty [(⟨#[]⟩ : ByteArray), (⟨#[40]⟩ : ByteArray), (⟨#[41]⟩ : ByteArray), (⟨#[100]⟩ : ByteArray), (⟨#[38]⟩ : ByteArray)] u) ++ t.extract (v + 1).toNat t.size, q + 1 + 1, Ev.succ ?_, by omega, by omega, hz⟩
      · simp only [spec_l20Formed.j0, hw]
        refine Ev.bind ho (Ev.ite_pos rfl (Ev.bind hv (Ev.ite_pos v0 (Ev.ite_pos ?_ (Ev.pbind rfl (Ev.bind hu (Ev.ite_pos u0 (Ev.ite_pos ?_ (Ev.ite_pos ?_ (Ev.ite_pos ?_ (Ev.ite_pos ?_ (Ev.ite_pos ?_ (Ev.eq (Ev.now _) (by show (_ ++ t.extract (wrap64 (v + 1)).toNat t.size, _) = _; rw [hw]))))))))))))))
        · show v ≤ (t.size : Int)
          omega
        · show u < 5
          exact u2
        · simp only [ByteArray.size_extract]; omega
        · show 0 ≤ wrap64 (v + 1)
          rw [hw]; omega
        · show wrap64 (v + 1) ≤ (t.size : Int)
          rw [hw]; omega
        · simp only [ByteArray.size_append, ByteArray.size_extract]; omega
  unfold spec_l20Formed.f
  obtain ⟨s, q, hs, q0, q1, s0, s1⟩ := formula_ev hb hl 3 (by omega) p h0 (by omega)
  have c3 : costF 3 = 150 := rfl
  obtain ⟨v, hv, v0, v1⟩ := pick_ev hb hl (p := q) (by omega) (by omega) 8
  by_cases e0 : v = 0
  · obtain ⟨t, r, ht, r0, r1, t1⟩ := tail ⟨#[40, 33, 97, 124, 40, 97, 38, 40, 33, 97, 124, 98, 41, 41, 41]⟩ (q + 1) (by decide) (by decide) (by omega) (by omega)
    exact ⟨t, r, Ev.bind hs (Ev.bind hv (Ev.ite_pos e0 ht)), by omega, by omega, t1⟩
  by_cases e1 : v = 1
  · obtain ⟨t, r, ht, r0, r1, t1⟩ := tail ⟨#[40, 97, 124, 33, 97, 41]⟩ (q + 1) (by decide) (by decide) (by omega) (by omega)
    exact ⟨t, r, Ev.bind hs (Ev.bind hv (Ev.ite_neg e0 (Ev.ite_pos e1 ht))), by omega, by omega, t1⟩
  by_cases e2 : v = 2
  · obtain ⟨t, r, ht, r0, r1, t1⟩ := tail ⟨#[40, 40, 97, 38, 98, 41, 124, 40, 40, 97, 38, 33, 98, 41, 124, 40, 33, 97, 124, 33, 98, 41, 41, 41]⟩ (q + 1) (by decide) (by decide) (by omega) (by omega)
    exact ⟨t, r, Ev.bind hs (Ev.bind hv (Ev.ite_neg e0 (Ev.ite_neg e1 (Ev.ite_pos e2 ht)))), by omega, by omega, t1⟩
  obtain ⟨t, r, ht, r0, r1, t1⟩ := tail s (q + 1) (by omega) (by omega) (by omega) (by omega)
  exact ⟨t, r, Ev.bind hs (Ev.bind hv (Ev.ite_neg e0 (Ev.ite_neg e1 (Ev.ite_neg e2 ht)))), by omega, by omega, t1⟩
theorem drawFormulaOk_ev {l : List Int} (h : Bytes l) : ∃ s, Ev (fun k => spec_DrawFormulaOk.f k l) s ∧ s.size ≤ 200 := by
  obtain ⟨b, hb, hl, ho⟩ := open_ev h
  obtain ⟨s, q, hs, _, _, h2⟩ := formed_ev hb hl (p := 0) (by omega) (by omega) 2
  unfold spec_DrawFormulaOk.f
  exact ⟨s, Ev.pbind ho (Ev.bind hs (Ev.now _)), h2⟩
end Go.Proofs.Ytdoomkcgdcfmlaa.Print
end
section
namespace Go.Proofs.Ytdoomkcgdcfmlaa.Print
open Go.RowKit Go.Proofs.YtdoomkcgdcfmlaaW.PrintWords Go.Proofs.YtdoomkcgdcfmlaaW.PrintLast Go.Proofs.YtdoomkcgdcfmlaaW.PrintMore
set_option linter.unusedVariables false
set_option linter.unusedSimpArgs false
open Oml
def rowOk (U : List (List Int)) (i : Nat) : Bool :=
  ((U.getD i []).length == U.length) && (leB U i i && allN U.length fun j => (at2 U i j == 0 || at2 U i j == 1) && ((U.getD j []).length == U.length && !(leB U i j && (!(i == j) && leB U j i))))
def transOk (U : List (List Int)) : Bool := allN U.length fun a => allN U.length fun b => allN U.length fun c => !(leB U a b && leB U b c) || leB U a c
theorem orderB_eq (U : List (List Int)) : orderB U = (decide (1 ≤ U.length) && (decide (U.length ≤ 12) && (allN U.length (rowOk U) && transOk U))) := by
  rw [Bool.eq_iff_iff, orderB_iff]
  unfold rowOk transOk
  simp only [Bool.and_eq_true, decide_eq_true_eq, allN_iff, Bool.or_eq_true, beq_iff_eq, Bool.not_eq_true', Bool.and_eq_false_iff]
  constructor
  · intro O
    refine ⟨O.pos, O.small, fun i hi => ⟨O.row i hi, O.refl i hi, fun j hj => ⟨O.bit i j hi hj, O.row j hj, ?_⟩⟩, fun a ha b hb c hc => ?_⟩
    · by_cases e : i = j
      · right; left; simp [e]
      · cases k1 : leB U i j <;> cases k2 : leB U j i <;> simp
        exact O.anti i j hi hj k1 k2
    · cases k1 : leB U a b <;> cases k2 : leB U b c <;> simp
      exact O.trans a b c ha hb hc k1 k2
  · rintro ⟨h1, h2, h3, h4⟩
    refine ⟨h1, h2, fun a ha => (h3 a ha).1, fun a b ha hb => ((h3 a ha).2.2 b hb).1, fun a ha => (h3 a ha).2.1, fun a b ha hb k1 k2 => ?_, fun a b c ha hb hc k1 k2 => ?_⟩
    · rcases ((h3 a ha).2.2 b hb).2.2 with e | e | e
      · rw [k1] at e; exact absurd e (by simp)
      · simpa using e
      · rw [k2] at e; exact absurd e (by simp)
    · rcases h4 a ha b hb c hc with (e | e) | e
      · rw [k1] at e; exact absurd e (by simp)
      · rw [k2] at e; exact absurd e (by simp)
      · exact e
theorem impl_OrderOk.ev (U : List (List Int)) : Ev (fun k => impl_OrderOk.f k U) (orderB U) := by
  rw [orderB_eq]
  by_cases h1 : 1 ≤ U.length
  · by_cases h2 : U.length ≤ 12
    · simp only [h1, h2, decide_true, Bool.true_and]
      unfold impl_OrderOk.f
      repeat (first | ((with_reducible refine Ev.ite_pos ?_ ?_); (first | assumption | (focus omega) | (focus (simp; done)))) | ((with_reducible refine Ev.ite_neg ?_ ?_); (first | assumption | (focus omega) | (focus (simp; done)))))
      rw [show decide ((U.length : Int) > 12) = false from decide_eq_false (by omega)]
      refine Ev.succ ?_
      simp only [impl_OrderOk.j0]
      repeat (first | ((with_reducible refine Ev.ite_pos ?_ ?_); (first | assumption | (focus omega) | (focus (simp; done)))) | ((with_reducible refine Ev.ite_neg ?_ ?_); (first | assumption | (focus omega) | (focus (simp; done)))))
      refine Ev.eq (Ev.all (n := U.length) (g := fun k i => impl_OrderOk.l0 k U U.length U U.length i) (rowOk U) (go := transOk U) (stop := false) (by omega) (fun hr => ?_) fun i hi hj R hR => ?_) (by cases allN U.length (rowOk U) <;> rfl)
      · refine Ev.succ ?_
        simp only [impl_OrderOk.l0]
        repeat (first | ((with_reducible refine Ev.ite_pos ?_ ?_); (first | assumption | (focus omega) | (focus (simp; done)))) | ((with_reducible refine Ev.ite_neg ?_ ?_); (first | assumption | (focus omega) | (focus (simp; done)))))
        refine Ev.eq (Ev.all (n := U.length) (g := fun k i => impl_OrderOk.l2 k U U.length U.length i) (fun a => allN U.length fun b => allN U.length fun c => !(leB U a b && leB U b c) || leB U a c) (go := true) (stop := false) (by omega) (fun _ => ?_) fun a ha _ R hR => ?_) (by unfold transOk; cases allN U.length _ <;> rfl)
        · refine Ev.succ ?_
          simp only [impl_OrderOk.l2]
          repeat (first | ((with_reducible refine Ev.ite_pos ?_ ?_); (first | assumption | (focus omega) | (focus (simp; done)))) | ((with_reducible refine Ev.ite_neg ?_ ?_); (first | assumption | (focus omega) | (focus (simp; done)))))
          exact Ev.now _
        · refine Ev.succ ?_
          simp only [impl_OrderOk.l2]
          repeat (first | ((with_reducible refine Ev.ite_pos ?_ ?_); (first | assumption | (focus omega) | (focus (simp; done)))) | ((with_reducible refine Ev.ite_neg ?_ ?_); (first | assumption | (focus omega) | (focus (simp; done)))))
          refine Ev.all (n := U.length) (g := fun k i => impl_OrderOk.l3 k U U.length a U.length a U.length i) _ (by omega) (fun h => ?_) fun b hb _ R2 hR2 => ?_
          · refine Ev.succ ?_
            simp only [impl_OrderOk.l3]
            repeat (first | ((with_reducible refine Ev.ite_pos ?_ ?_); (first | assumption | (focus omega) | (focus (simp; done)))) | ((with_reducible refine Ev.ite_neg ?_ ?_); (first | assumption | (focus omega) | (focus (simp; done)))))
            exact hR (allN_iff.2 h)
          · refine Ev.succ ?_
            simp only [impl_OrderOk.l3]
            repeat (first | ((with_reducible refine Ev.ite_pos ?_ ?_); (first | assumption | (focus omega) | (focus (simp; done)))) | ((with_reducible refine Ev.ite_neg ?_ ?_); (first | assumption | (focus omega) | (focus (simp; done)))))
            refine Ev.all (n := U.length) (g := fun k i => impl_OrderOk.l4 k U U.length a b U.length a U.length b U.length i) _ (by omega) (fun h => ?_) fun c hc _ R3 hR3 => ?_
            · refine Ev.succ ?_
              simp only [impl_OrderOk.l4]
              repeat (first | ((with_reducible refine Ev.ite_pos ?_ ?_); (first | assumption | (focus omega) | (focus (simp; done)))) | ((with_reducible refine Ev.ite_neg ?_ ?_); (first | assumption | (focus omega) | (focus (simp; done)))))
              exact hR2 (allN_iff.2 h)
            · refine Ev.succ ?_
              have ra : ((U.getD a []).length : Int) = U.length := by have := hr a ha; unfold rowOk at this; simp only [Bool.and_eq_true, beq_iff_eq] at this; omega
              have rb : ((U.getD b []).length : Int) = U.length := by have := hr b hb; unfold rowOk at this; simp only [Bool.and_eq_true, beq_iff_eq] at this; omega
              simp only [impl_OrderOk.l4, rdL_nat, rd_nat, rd_row, ra, rb]
              repeat (first | ((with_reducible refine Ev.ite_pos ?_ ?_); (first | assumption | (focus omega) | (focus (simp; done)))) | ((with_reducible refine Ev.ite_neg ?_ ?_); (first | assumption | (focus omega) | (focus (simp; done)))))
              by_cases e1 : at2 U a b = 1
              · have f1 : leB U a b = true := by simp [leB, e1]
                by_cases e2 : at2 U b c = 1
                · have f2 : leB U b c = true := by simp [leB, e2]
                  by_cases e3 : at2 U a c = 1
                  · have f3 : leB U a c = true := by simp [leB, e3]
                    repeat (first | ((with_reducible refine Ev.ite_pos ?_ ?_); (first | assumption | (focus omega) | (focus (simp; done)))) | ((with_reducible refine Ev.ite_neg ?_ ?_); (first | assumption | (focus omega) | (focus (simp; done)))))
                    refine Ev.eq (hR3 (by simp [f3])) (by simp [f3])
                  · have f3 : leB U a c = false := by simp [leB, e3]
                    repeat (first | ((with_reducible refine Ev.ite_pos ?_ ?_); (first | assumption | (focus omega) | (focus (simp; done)))) | ((with_reducible refine Ev.ite_neg ?_ ?_); (first | assumption | (focus omega) | (focus (simp; done)))))
                    refine Ev.eq (Ev.now _) (by simp [f1, f2, f3])
                · have f2 : leB U b c = false := by simp [leB, e2]
                  repeat (first | ((with_reducible refine Ev.ite_pos ?_ ?_); (first | assumption | (focus omega) | (focus (simp; done)))) | ((with_reducible refine Ev.ite_neg ?_ ?_); (first | assumption | (focus omega) | (focus (simp; done)))))
                  refine Ev.eq (hR3 (by simp [f2])) (by simp [f2])
              · have f1 : leB U a b = false := by simp [leB, e1]
                repeat (first | ((with_reducible refine Ev.ite_pos ?_ ?_); (first | assumption | (focus omega) | (focus (simp; done)))) | ((with_reducible refine Ev.ite_neg ?_ ?_); (first | assumption | (focus omega) | (focus (simp; done)))))
                refine Ev.eq (hR3 (by simp [f1])) (by simp [f1])
      · refine Ev.succ ?_
        simp only [impl_OrderOk.l0, rdL_nat, rd_nat, rd_row]
        repeat (first | ((with_reducible refine Ev.ite_pos ?_ ?_); (first | assumption | (focus omega) | (focus (simp; done)))) | ((with_reducible refine Ev.ite_neg ?_ ?_); (first | assumption | (focus omega) | (focus (simp; done)))))
        by_cases e1 : (U.getD i []).length = U.length
        · repeat (first | ((with_reducible refine Ev.ite_pos ?_ ?_); (first | assumption | (focus omega) | (focus (simp; done)))) | ((with_reducible refine Ev.ite_neg ?_ ?_); (first | assumption | (focus omega) | (focus (simp; done)))))
          by_cases e2 : at2 U i i = 1
          · have f2 : leB U i i = true := by simp [leB, e2]
            rw [show (at2 U i i != 1) = false by simp [e2]]
            refine Ev.succ ?_
            simp only [impl_OrderOk.j2, rdL_nat, rd_nat, rd_row]
            repeat (first | ((with_reducible refine Ev.ite_pos ?_ ?_); (first | assumption | (focus omega) | (focus (simp; done)))) | ((with_reducible refine Ev.ite_neg ?_ ?_); (first | assumption | (focus omega) | (focus (simp; done)))))
            rw [e1]
            refine Ev.eq (Ev.all (n := U.length) (g := fun k j => impl_OrderOk.l1 k U U.length i U U.length i (U.getD i []) U.length j) (fun j => (at2 U i j == 0 || at2 U i j == 1) && ((U.getD j []).length == U.length && !(leB U i j && (!(i == j) && leB U j i)))) (go := R) (stop := false) (by omega) (fun h => ?_) fun j hj _ R2 hR2 => ?_) (by unfold rowOk; simp [-List.getD_eq_getElem?_getD, e1, f2])
            · refine Ev.succ ?_
              simp only [impl_OrderOk.l1]
              repeat (first | ((with_reducible refine Ev.ite_pos ?_ ?_); (first | assumption | (focus omega) | (focus (simp; done)))) | ((with_reducible refine Ev.ite_neg ?_ ?_); (first | assumption | (focus omega) | (focus (simp; done)))))
              exact hR (by unfold rowOk; simp only [e1, f2, BEq.rfl, Bool.true_and]; exact allN_iff.2 h)
            · refine Ev.succ ?_
              simp only [impl_OrderOk.l1, rd_nat, rd_row]
              repeat (first | ((with_reducible refine Ev.ite_pos ?_ ?_); (first | assumption | (focus omega) | (focus (simp; done)))) | ((with_reducible refine Ev.ite_neg ?_ ?_); (first | assumption | (focus omega) | (focus (simp; done)))))
              have j4 : ∀ R3 : Bool, (((U.getD j []).length = U.length → (leB U i j = true → i ≠ j → leB U j i = false) → Ev (fun k => impl_OrderOk.l1 k U U.length i U U.length i (U.getD i []) U.length (wrap64 ((j : Int) + 1))) R3)) →
                  Ev (fun k => impl_OrderOk.j4 k U U.length i j (at2 U i j) U U.length i (U.getD i []) U.length j false) (if ((U.getD j []).length == U.length && !(leB U i j && (!(i == j) && leB U j i))) = true then R3 else false) := by
                intro R3 hR3
                refine Ev.succ ?_
                simp only [impl_OrderOk.j4, rdL_nat, rd_nat, rd_row]
                repeat (first | ((with_reducible refine Ev.ite_pos ?_ ?_); (first | assumption | (focus omega) | (focus (simp; done)))) | ((with_reducible refine Ev.ite_neg ?_ ?_); (first | assumption | (focus omega) | (focus (simp; done)))))
                by_cases l1 : (U.getD j []).length = U.length
                · repeat (first | ((with_reducible refine Ev.ite_pos ?_ ?_); (first | assumption | (focus omega) | (focus (simp; done)))) | ((with_reducible refine Ev.ite_neg ?_ ?_); (first | assumption | (focus omega) | (focus (simp; done)))))
                  rw [l1]
                  by_cases x1 : at2 U i j = 1
                  · have y1 : leB U i j = true := by simp [leB, x1]
                    repeat (first | ((with_reducible refine Ev.ite_pos ?_ ?_); (first | assumption | (focus omega) | (focus (simp; done)))) | ((with_reducible refine Ev.ite_neg ?_ ?_); (first | assumption | (focus omega) | (focus (simp; done)))))
                    by_cases x2 : i = j
                    · repeat (first | ((with_reducible refine Ev.ite_pos ?_ ?_); (first | assumption | (focus omega) | (focus (simp; done)))) | ((with_reducible refine Ev.ite_neg ?_ ?_); (first | assumption | (focus omega) | (focus (simp; done)))))
                      exact Ev.eq (hR3 l1 (fun _ h => absurd x2 h)) (by simp [x2])
                    · repeat (first | ((with_reducible refine Ev.ite_pos ?_ ?_); (first | assumption | (focus omega) | (focus (simp; done)))) | ((with_reducible refine Ev.ite_neg ?_ ?_); (first | assumption | (focus omega) | (focus (simp; done)))))
                      by_cases x3 : at2 U j i = 1
                      · have y3 : leB U j i = true := by simp [leB, x3]
                        repeat (first | ((with_reducible refine Ev.ite_pos ?_ ?_); (first | assumption | (focus omega) | (focus (simp; done)))) | ((with_reducible refine Ev.ite_neg ?_ ?_); (first | assumption | (focus omega) | (focus (simp; done)))))
                        exact Ev.eq (Ev.now _) (by simp [x2, y1, y3])
                      · have y3 : leB U j i = false := by simp [leB, x3]
                        repeat (first | ((with_reducible refine Ev.ite_pos ?_ ?_); (first | assumption | (focus omega) | (focus (simp; done)))) | ((with_reducible refine Ev.ite_neg ?_ ?_); (first | assumption | (focus omega) | (focus (simp; done)))))
                        exact Ev.eq (hR3 l1 (fun _ _ => y3)) (by simp [y3])
                  · have y1 : leB U i j = false := by simp [leB, x1]
                    repeat (first | ((with_reducible refine Ev.ite_pos ?_ ?_); (first | assumption | (focus omega) | (focus (simp; done)))) | ((with_reducible refine Ev.ite_neg ?_ ?_); (first | assumption | (focus omega) | (focus (simp; done)))))
                    exact Ev.eq (hR3 l1 (fun h => by rw [y1] at h; exact absurd h (by simp))) (by simp [y1])
                · repeat (first | ((with_reducible refine Ev.ite_pos ?_ ?_); (first | assumption | (focus omega) | (focus (simp; done)))) | ((with_reducible refine Ev.ite_neg ?_ ?_); (first | assumption | (focus omega) | (focus (simp; done)))))
                  exact Ev.eq (Ev.now _) (by simp [-List.getD_eq_getElem?_getD, l1])
              have hgo : at2 U i j = 0 ∨ at2 U i j = 1 → Ev (fun k => impl_OrderOk.j4 k U U.length i j (at2 U i j) U U.length i (U.getD i []) U.length j false) (if ((at2 U i j == 0 || at2 U i j == 1) && ((U.getD j []).length == U.length && !(leB U i j && (!(i == j) && leB U j i)))) = true then R2 else false) := by
                intro hb
                have hb1 : (at2 U i j == 0 || at2 U i j == 1) = true := by rcases hb with h | h <;> simp [h]
                rw [hb1, Bool.true_and]
                refine j4 R2 fun l1 h => hR2 ?_
                rw [hb1, Bool.true_and]
                simp only [l1, BEq.rfl, Bool.true_and, Bool.not_eq_true']
                cases y1 : leB U i j
                · rfl
                · by_cases x2 : i = j
                  · simp [x2]
                  · simp [h y1 x2]
              by_cases x0 : at2 U i j = 0
              · repeat (first | ((with_reducible refine Ev.ite_pos ?_ ?_); (first | assumption | (focus omega) | (focus (simp; done)))) | ((with_reducible refine Ev.ite_neg ?_ ?_); (first | assumption | (focus omega) | (focus (simp; done)))))
                exact hgo (.inl x0)
              · repeat (first | ((with_reducible refine Ev.ite_pos ?_ ?_); (first | assumption | (focus omega) | (focus (simp; done)))) | ((with_reducible refine Ev.ite_neg ?_ ?_); (first | assumption | (focus omega) | (focus (simp; done)))))
                by_cases x1 : at2 U i j = 1
                · rw [show (at2 U i j != 1) = false by simp [x1]]
                  exact hgo (.inr x1)
                · rw [show (at2 U i j != 1) = true by simp [x1]]
                  refine Ev.succ ?_
                  simp only [impl_OrderOk.j4]
                  repeat (first | ((with_reducible refine Ev.ite_pos ?_ ?_); (first | assumption | (focus omega) | (focus (simp; done)))) | ((with_reducible refine Ev.ite_neg ?_ ?_); (first | assumption | (focus omega) | (focus (simp; done)))))
                  exact Ev.eq (Ev.now _) (by simp [x0, x1])
          · have f2 : leB U i i = false := by simp [leB, e2]
            rw [show (at2 U i i != 1) = true by simp [e2]]
            refine Ev.succ ?_
            simp only [impl_OrderOk.j2]
            repeat (first | ((with_reducible refine Ev.ite_pos ?_ ?_); (first | assumption | (focus omega) | (focus (simp; done)))) | ((with_reducible refine Ev.ite_neg ?_ ?_); (first | assumption | (focus omega) | (focus (simp; done)))))
            exact Ev.eq (Ev.now _) (by unfold rowOk; simp [f2])
        · repeat (first | ((with_reducible refine Ev.ite_pos ?_ ?_); (first | assumption | (focus omega) | (focus (simp; done)))) | ((with_reducible refine Ev.ite_neg ?_ ?_); (first | assumption | (focus omega) | (focus (simp; done)))))
          refine Ev.succ ?_
          simp only [impl_OrderOk.j2]
          repeat (first | ((with_reducible refine Ev.ite_pos ?_ ?_); (first | assumption | (focus omega) | (focus (simp; done)))) | ((with_reducible refine Ev.ite_neg ?_ ?_); (first | assumption | (focus omega) | (focus (simp; done)))))
          exact Ev.eq (Ev.now _) (by unfold rowOk; simp [-List.getD_eq_getElem?_getD, e1])
    · simp only [h1, h2, decide_true, decide_false, Bool.true_and, Bool.false_and]
      unfold impl_OrderOk.f
      repeat (first | ((with_reducible refine Ev.ite_pos ?_ ?_); (first | assumption | (focus omega) | (focus (simp; done)))) | ((with_reducible refine Ev.ite_neg ?_ ?_); (first | assumption | (focus omega) | (focus (simp; done)))))
      rw [show decide ((U.length : Int) > 12) = true from decide_eq_true (by omega)]
      refine Ev.succ ?_
      simp only [impl_OrderOk.j0]
      repeat (first | ((with_reducible refine Ev.ite_pos ?_ ?_); (first | assumption | (focus omega) | (focus (simp; done)))) | ((with_reducible refine Ev.ite_neg ?_ ?_); (first | assumption | (focus omega) | (focus (simp; done)))))
      exact Ev.now _
  · simp only [h1, decide_false, Bool.false_and]
    unfold impl_OrderOk.f
    repeat (first | ((with_reducible refine Ev.ite_pos ?_ ?_); (first | assumption | (focus omega) | (focus (simp; done)))) | ((with_reducible refine Ev.ite_neg ?_ ?_); (first | assumption | (focus omega) | (focus (simp; done)))))
    refine Ev.succ ?_
    simp only [impl_OrderOk.j0]
    repeat (first | ((with_reducible refine Ev.ite_pos ?_ ?_); (first | assumption | (focus omega) | (focus (simp; done)))) | ((with_reducible refine Ev.ite_neg ?_ ?_); (first | assumption | (focus omega) | (focus (simp; done)))))
    exact Ev.now _
theorem turnL_len (U : List (List Int)) : (turnL U).length = U.length := by simp [turnL]
theorem turnL_at (U : List (List Int)) {a b : Nat} (ha : a < U.length) (hb : b < U.length) : at2 (turnL U) a b = at2 U b a := by simp [at2, turnL, ha, hb]
theorem turnL_le (U : List (List Int)) {a b : Nat} (ha : a < U.length) (hb : b < U.length) : leB (turnL U) a b = leB U b a := by unfold leB; rw [turnL_at U ha hb]
theorem _root_.Oml.Order.turn {U : List (List Int)} (O : Order U) : Order (turnL U) where
  pos := by rw [turnL_len]; exact O.pos
  small := by rw [turnL_len]; exact O.small
  row a ha := by rw [turnL_len] at *; simp [turnL, ha]
  bit a b ha hb := by rw [turnL_len] at *; rw [turnL_at U ha hb]; exact O.bit b a hb ha
  refl a ha := by rw [turnL_len] at *; rw [turnL_le U ha ha]; exact O.refl a ha
  anti a b ha hb h k := by rw [turnL_len] at *; rw [turnL_le U ha hb] at h; rw [turnL_le U hb ha] at k; exact O.anti a b ha hb k h
  trans a b c ha hb hc h k := by rw [turnL_len] at *; rw [turnL_le U ha hb] at h; rw [turnL_le U hb hc] at k; rw [turnL_le U ha hc]; exact O.trans c b a hc hb ha k h
end Go.Proofs.Ytdoomkcgdcfmlaa.Print
end
