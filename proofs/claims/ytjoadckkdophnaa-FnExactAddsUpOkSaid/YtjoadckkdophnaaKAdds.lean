/- The program's AddsUpOk returns what the reference's returns, for all arguments. No condition. -/
import Derived.Test.YtjoadckkdophnaaRows
import Derived.Test.YtjoadckkdophnaaKAdds5
import Derived.Below
import Derived.Deep.Draws
import Derived.Deep.AppendLies
import Derived.Maps.AppendAt
import Derived.OwnWalk
import Derived.Laws.BytesArg
import Derived.Laws.MakeOwn
import Derived.Laws.OwnMore
import Derived.Deep.OwnRows
import Derived.Tactics
import Derived.Lib.ConvBytes
import Derived.Laws.Slices
import Derived.WalkKit
import Derived.KernelRfl
import Derived.RowKit3
import Derived.Deep.LoopGhost
import Derived.Deep.QuietTactic
import Derived.BigQuiet
import Derived.WideLaws
import Derived.Deep.DeepCutAuto
import Derived.Deep.CutBlock
import Derived.Deep.RegionHeld3
import Derived.Laws.Rows
import Derived.Lib.AppendStr
import Derived.ArgAppend
import Derived.Laws.IdiomCopy
import Derived.RowKit
import Derived.OrdersHeld
import Derived.Laws.BitsLemmas
import Derived.Test.YtjoadckkdophnaaProg
import Derived.Deep.Matrix
import Derived.Lib.SmallJoins
import Derived.ProofKit
import Derived.OpenShut
import Derived.ChangeOld
import Derived.SizedLaws
section
namespace Go.Proofs.Ytjoadckkdophnaa.Print
open Go.RowKit Go.Proofs.YtjoadckkdophnaaW.PrintWords Go.Proofs.YtjoadckkdophnaaW.PrintLast Go.Proofs.YtjoadckkdophnaaW.PrintMore
set_option linter.unusedVariables false
set_option linter.unusedSimpArgs false
open Oml
theorem addT_comm (U : List (List Int)) (a b : Int) : addT U a b = addT U b a := by
  unfold addT
  rw [andI_comm U a b, orI_comm U a b, Int.add_comm (hiI U a)]
theorem addT_self {U : List (List Int)} (O : Order U) {a : Nat} (ha : a < U.length) : addT U a a = true := by
  unfold addT
  rw [andI_nat, orI_nat, mI, jI, O.meet_eq (a := a) (b := a) ha (meetP_iff.2 ⟨O.refl a ha, O.refl a ha, fun d _ h _ => h⟩), O.join_eq (a := a) (b := a) ha (joinP_iff.2 ⟨O.refl a ha, O.refl a ha, fun d _ h _ => h⟩)]
  simp [optI]
theorem addB_half {U : List (List Int)} (O : Order U) : addB U = allN U.length fun a => allN a fun b => addT U a b := by
  rw [Bool.eq_iff_iff]
  unfold addB
  simp only [allN_iff]
  constructor
  · intro h a ha b hb
    exact h a ha b (by omega)
  · intro h a ha b hb
    rcases Nat.lt_trichotomy b a with hlt | rfl | hlt
    · exact h a ha b hlt
    · exact addT_self O hb
    · rw [addT_comm]
      exact h b hb a hlt
theorem hiL_rd (U : List (List Int)) {a : Int} (ha : In U a) : rd (hiL U U.length) a = hiI U a := by
  obtain ⟨x, rfl⟩ : ∃ x : Nat, a = x := ⟨a.toNat, by have := ha.1; omega⟩
  rw [rd_nat, ← Int.toNat_natCast x, hiL_at ha.1 ha.2, Int.toNat_natCast]
theorem spec_AddsUpOk.ev (U : List (List Int)) (N : List Int) : Ev (fun k => spec_AddsUpOk.f k U N) (if logicB U N = true then addB U else false) := by
  unfold spec_AddsUpOk.f
  refine Ev.bind (spec_LogicOk.ev U N) ?_
  cases hl : logicB U N with
  | false => repeat (first | ((with_reducible refine Ev.ite_pos ?_ ?_); (first | assumption | (focus omega) | (focus (simp; done)))) | ((with_reducible refine Ev.ite_neg ?_ ?_); (first | assumption | (focus omega) | (focus (simp; done)))))
             exact Ev.now _
  | true =>
    have L := logicB_iff.1 hl
    have O := L.toOrder
    have hs := L.small
    have hll : ((hiL U U.length).length : Int) = U.length := by rw [hiL_length]
    rw [L.len, addB_half O]
    repeat (first | ((with_reducible refine Ev.ite_pos ?_ ?_); (first | assumption | (focus omega) | (focus (simp; done)))) | ((with_reducible refine Ev.ite_neg ?_ ?_); (first | assumption | (focus omega) | (focus (simp; done)))))
    rw [if_pos rfl]
    refine Ev.loop (g := fun k s i => spec_AddsUpOk.l0 k U.length s i U N) U.length (fun i s => s = hiL U i) (by omega) (fun s h => ?_) (fun i s hi h => ?_) [] rfl
    · subst h
      refine Ev.succ ?_
      simp only [spec_AddsUpOk.l0]
      repeat (first | ((with_reducible refine Ev.ite_pos ?_ ?_); (first | assumption | (focus omega) | (focus (simp; done)))) | ((with_reducible refine Ev.ite_neg ?_ ?_); (first | assumption | (focus omega) | (focus (simp; done)))))
      refine Ev.eq (Ev.all (n := U.length) (g := fun k i => spec_AddsUpOk.l1 k U.length (hiL U U.length) i U N) (fun a => allN a fun b => addT U a b) (go := true) (stop := false) (by omega) (fun _ => ?_) fun a ha _ R hR => ?_) (by cases allN U.length fun a => allN a fun b => addT U a b <;> rfl)
      · refine Ev.succ ?_
        simp only [spec_AddsUpOk.l1]
        repeat (first | ((with_reducible refine Ev.ite_pos ?_ ?_); (first | assumption | (focus omega) | (focus (simp; done)))) | ((with_reducible refine Ev.ite_neg ?_ ?_); (first | assumption | (focus omega) | (focus (simp; done)))))
        exact Ev.now _
      · refine Ev.succ ?_
        simp only [spec_AddsUpOk.l1]
        repeat (first | ((with_reducible refine Ev.ite_pos ?_ ?_); (first | assumption | (focus omega) | (focus (simp; done)))) | ((with_reducible refine Ev.ite_neg ?_ ?_); (first | assumption | (focus omega) | (focus (simp; done)))))
        refine Ev.all (n := a) (g := fun k i => spec_AddsUpOk.l2 k U.length (hiL U U.length) a i U N) _ (by omega) (fun h => ?_) fun b hb' _ R2 hR2 => ?_
        · refine Ev.succ ?_
          simp only [spec_AddsUpOk.l2]
          repeat (first | ((with_reducible refine Ev.ite_pos ?_ ?_); (first | assumption | (focus omega) | (focus (simp; done)))) | ((with_reducible refine Ev.ite_neg ?_ ?_); (first | assumption | (focus omega) | (focus (simp; done)))))
          exact hR (allN_iff.2 h)
        · have Ia : In U (a : Int) := ⟨by omega, by omega⟩
          have Ib : In U (b : Int) := ⟨by omega, by omega⟩
          have Im := L.in_and Ia Ib
          have Ij := L.in_or Ia Ib
          have m0 := Im.1
          have m1 := Im.2
          have j0 := Ij.1
          have j1 := Ij.2
          refine Ev.succ ?_
          simp only [spec_AddsUpOk.l2, hll]
          repeat (first | ((with_reducible refine Ev.ite_pos ?_ ?_); (first | assumption | (focus omega) | (focus (simp; done)))) | ((with_reducible refine Ev.ite_neg ?_ ?_); (first | assumption | (focus omega) | (focus (simp; done)))))
          refine Ev.bind (meet_in L Ia Ib) ?_
          repeat (first | ((with_reducible refine Ev.ite_pos ?_ ?_); (first | assumption | (focus omega) | (focus (simp; done)))) | ((with_reducible refine Ev.ite_neg ?_ ?_); (first | assumption | (focus omega) | (focus (simp; done)))))
          refine Ev.bind (join_in L Ia Ib) ?_
          repeat (first | ((with_reducible refine Ev.ite_pos ?_ ?_); (first | assumption | (focus omega) | (focus (simp; done)))) | ((with_reducible refine Ev.ite_neg ?_ ?_); (first | assumption | (focus omega) | (focus (simp; done)))))
          rw [hiL_rd U Ia, hiL_rd U Ib, hiL_rd U Im, hiL_rd U Ij]
          by_cases e : wrap64 (hiI U a + hiI U b) = wrap64 (hiI U (andI U a b) + hiI U (orI U a b))
          · repeat (first | ((with_reducible refine Ev.ite_pos ?_ ?_); (first | assumption | (focus omega) | (focus (simp; done)))) | ((with_reducible refine Ev.ite_neg ?_ ?_); (first | assumption | (focus omega) | (focus (simp; done)))))
            exact Ev.eq (hR2 (by unfold addT; simp [e])) (by unfold addT; simp [e])
          · repeat (first | ((with_reducible refine Ev.ite_pos ?_ ?_); (first | assumption | (focus omega) | (focus (simp; done)))) | ((with_reducible refine Ev.ite_neg ?_ ?_); (first | assumption | (focus omega) | (focus (simp; done)))))
            exact Ev.eq (Ev.now _) (by unfold addT; simp [e])
    · subst h
      refine ⟨_, rfl, fun K => Ev.succ ?_⟩
      have hl2 := hiL_length U i
      simp only [spec_AddsUpOk.l0]
      repeat (first | ((with_reducible refine Ev.ite_pos ?_ ?_); (first | assumption | (focus omega) | (focus (simp; done)))) | ((with_reducible refine Ev.ite_neg ?_ ?_); (first | assumption | (focus omega) | (focus (simp; done)))))
      refine Ev.bind (spec_high_in O (a := (i : Int)) ⟨by omega, by omega⟩) ?_
      repeat (first | ((with_reducible refine Ev.ite_pos ?_ ?_); (first | assumption | (focus omega) | (focus (simp; done)))) | ((with_reducible refine Ev.ite_neg ?_ ?_); (first | assumption | (focus omega) | (focus (simp; done)))))
      rw [← hiL_succ]
      exact K
theorem laws_FnExactAddsUpOk.ev {U : List (List Int)} {N : List Int} (h : FitL U N) : Ev (fun k => laws_FnExactAddsUpOk.f k U N) true := by
  unfold laws_FnExactAddsUpOk.f
  obtain ⟨s, e1, e2⟩ := szLogic_ev h
  refine Ev.bind e1 ?_
  by_cases hs : s < 0
  · repeat (first | ((with_reducible refine Ev.ite_pos ?_ ?_); (first | assumption | (focus omega) | (focus (simp; done)))) | ((with_reducible refine Ev.ite_neg ?_ ?_); (first | assumption | (focus omega) | (focus (simp; done)))))
    exact Ev.now _
  · have hm := e2 (by omega)
    repeat (first | ((with_reducible refine Ev.ite_pos ?_ ?_); (first | assumption | (focus omega) | (focus (simp; done)))) | ((with_reducible refine Ev.ite_neg ?_ ?_); (first | assumption | (focus omega) | (focus (simp; done)))))
    refine Ev.bind (toLogic_ev hm) ?_
    refine Ev.bind (spec_AddsUpOk.ev U N) ?_
    refine Ev.bind (toLogic_ev hm) ?_
    refine Ev.pbind rfl ?_
    repeat (first | ((with_reducible refine Ev.ite_pos ?_ ?_); (first | assumption | (focus omega) | (focus (simp; done)))) | ((with_reducible refine Ev.ite_neg ?_ ?_); (first | assumption | (focus omega) | (focus (simp; done)))))
    refine Ev.bind (toLogic_ev hm) ?_
    refine Ev.bind (eqLogic_ev hm) ?_
    repeat (first | ((with_reducible refine Ev.ite_pos ?_ ?_); (first | assumption | (focus omega) | (focus (simp; done)))) | ((with_reducible refine Ev.ite_neg ?_ ?_); (first | assumption | (focus omega) | (focus (simp; done)))))
    exact Ev.now _
end Go.Proofs.Ytjoadckkdophnaa.Print
end
section
namespace Go.Proofs.Ytjoadckkdophnaa.fnExactAddsUpOk
open Go.ChangeShapes Go.WideShapes Go.ChangeAt Go.RowKit
set_option linter.unusedVariables false
theorem own : ownKnob Try.prog.godebug = none := by kernel_rfl
theorem laidOut : laidOutB Try.prog = true := by kernel_rfl
set_option maxRecDepth 100000 in
theorem lifted (os : Os) (started : os.Started) (H : Type) (enc : TypeId × Value → H) :
    ReturnsInHanded {} Try.checked os 10 .any (Rows.fnExactAddsUpOkSpec.pre6 enc Try.prog Try.f10 Rows.fnExactAddsUpOkRow.domain false) (Rows.fnExactAddsUpOkSpec.post enc Try.prog Try.f10 false true false false) := by
  refine returnsInHanded_of_change_sized (C := Try.checked) own started (by kernel_rfl) Try.func10
    (ChangeSpec.witness6 (enc := enc) (C := Try.checked) false ⟨#[], #[.agg #[.slice none 0 0, .slice none 0 0]], []⟩ 8 (by kernel_rfl) (by kernel_rfl) (by kernel_rfl) (by kernel_rfl)) ?_
  intro W base args ds gs before hval0 hW hcnd hsz0 _
  have hval : ∀ (j : Nat) t v, Try.f10.params[j]? = some t → args[j]? = some v → Value.okWide Try.prog W .any base t v := hval0
  have hW' := hW
  obtain ⟨p, q, hA0, hV, rfl, hfz, hnd⟩ := hW
  have hA : DataW.TrodAll enc Try.prog W 0 (fun _ => true) true Try.f10.params.toList args.toList ds p := hA0
  rw [Try.params10] at hA hval
  obtain ⟨v0, vs0, d0, ds0, p0, q0, hargs, rfl, rfl, h0, r0⟩ := trodAll_cons hA
  obtain ⟨rfl, rfl, rfl⟩ := trodAll_nil r0
  obtain rfl : args = #[v0] := by cases args; simp_all
  obtain ⟨rfl, rfl⟩ := trodVars_none hV
  have k0 := h0
  have lt0 : ∀ x ∈ p0, x.block < W.heap.size := by obtain ⟨m, hm⟩ := k0; exact DataW.trod_lt m _ _ _ hm
  obtain ⟨A0_0, c0_0, U0, A0_1, c0_1, N0, rfl, hc0_0, hc0_1, hf0, hr0_0, hr0_1⟩ := Print.logic_in' (hval 0 26 v0 rfl rfl) h0
  clear hA0 hval0 hsz0
  obtain ⟨k, hk⟩ := (Print.laws_FnExactAddsUpOk.ev hf0).rounds
  refine (Print.laws_FnExactAddsUpOk.calls k _ _ U0 _ _ N0 true W hr0_0 hc0_0 hr0_1 hc0_1 hk).mono fun e W' ⟨he, bel⟩ => ?_
  subst he
  exact ⟨_, rfl, _, _, _, [], _, [], hW', trodAll_mk1 (shut_bool Try.underlying4 _), (trodAll_cons_mk (Below.trod laidOut (by kernel_rfl) (of_decide_eq_true (by kernel_rfl)) k0 bel lt0) trodAll_mk0), rfl, bel.frame _, fun h => by cases h⟩
theorem over : Rows.fnExactAddsUpOkRow.holds Try.pinned (OpenSpec.ofChange Rows.fnExactAddsUpOkSpec) :=
  OpenClaim.holds_of_wide 10 Try.f10 rfl rfl rfl rfl rfl rfl rfl ⟨rfl, rfl, rfl, rfl, rfl⟩ rfl rfl rfl rfl rfl (by kernel_rfl) Try.func10 (by kernel_rfl)
    (of_decide_eq_true (by kernel_rfl)) (by unfold Func.isWrapper; first | (rw [if_pos (by decide +kernel)]; kernel_rfl) | (rw [if_neg (by decide +kernel)]; exact ⟨rfl, rfl⟩))
    (fun os started H enc _ => lifted os started H enc)
theorem proved : Rows.FnExactAddsUpOkSaid := over
end Go.Proofs.Ytjoadckkdophnaa.fnExactAddsUpOk
namespace Go.Proofs.Ytjoadckkdophnaa
theorem fnExactAddsUpOk_holds : Rows.FnExactAddsUpOkSaid := fnExactAddsUpOk.proved
end Go.Proofs.Ytjoadckkdophnaa
end
