/- Part 5 of what is common to several claims of this seat: FnFormulaOkL. -/
import Derived.Test.YtdoomkcgdcfmlaaLFF4
import Derived.Below
import Derived.Deep.Draws
import Derived.Deep.AppendLies
import Derived.Maps.AppendAt
import Derived.OwnWalk
import Derived.Laws.BytesArg
import Derived.Laws.MakeOwn
import Derived.Laws.OwnMore
import Derived.Deep.OwnRows
import Derived.Tactics
import Derived.Lib.ConvBytes
import Derived.Laws.Slices
import Derived.WalkKit
import Derived.KernelRfl
import Derived.RowKit3
import Derived.Deep.LoopGhost
import Derived.Deep.QuietTactic
import Derived.BigQuiet
import Derived.WideLaws
import Derived.Deep.DeepCutAuto
import Derived.Deep.CutBlock
import Derived.Deep.RegionHeld3
import Derived.Laws.Rows
import Derived.Lib.AppendStr
import Derived.ArgAppend
import Derived.Laws.IdiomCopy
import Derived.RowKit
import Derived.OrdersHeld
import Derived.Laws.BitsLemmas
import Derived.Test.YtdoomkcgdcfmlaaProg
import Derived.ProofKit
import Derived.OpenShut
import Derived.SizedLaws
import Derived.ChangeSlices
section
namespace Go.Proofs.Ytdoomkcgdcfmlaa.Print
open Go.RowKit Go.Proofs.YtdoomkcgdcfmlaaW.PrintWords Go.Proofs.YtdoomkcgdcfmlaaW.PrintLast Go.Proofs.YtdoomkcgdcfmlaaW.PrintMore
set_option linter.unusedVariables false
set_option linter.unusedSimpArgs false
open Oml
theorem alive_ev : Ev (fun k => laws_alive.f k) true := by
  unfold laws_alive.f
  refine Ev.bind (impl_OrderOk.ev _) ?_
  rw [show orderB [[1]] = true by decide]
  refine Ev.ite_pos rfl (Ev.bind (impl_OrderOk.ev _) ?_)
  rw [show orderB [[0]] = false by decide]
  exact Ev.now _
theorem fm_bang {s : ByteArray} (h : s.size < 60) : (fmOf ((⟨#[33]⟩ : ByteArray) ++ s)).isSome = (fmOf s).isSome := by
  have e1 : (⟨#[33]⟩ : ByteArray).size = 1 := rfl
  have hs : ((⟨#[33]⟩ : ByteArray) ++ s).size = s.size + 1 := by rw [ByteArray.size_append, e1]; omega
  have hb : bt ((⟨#[33]⟩ : ByteArray) ++ s) 0 = 33 := by
    have h0 : (0 : Int).toNat < ((⟨#[33]⟩ : ByteArray) ++ s).size := by rw [hs]; exact Nat.succ_pos _
    rw [← bt_at _ 0 h0]
    have h2 : (((⟨#[33]⟩ : ByteArray) ++ s)[(0 : Int).toNat]'h0) = (⟨#[33]⟩ : ByteArray)[0]'(by rw [e1]; omega) := ByteArray.getElem_append_left _
    rw [h2]; rfl
  have hx : ((⟨#[33]⟩ : ByteArray) ++ s).extract 1 ((⟨#[33]⟩ : ByteArray) ++ s).size = s := by
    apply ByteArray.extract_append_eq_right
    · rfl
    · rw [hs, e1]; omega
  unfold fmOf
  rw [if_neg (by rw [hs]; omega), if_neg (by omega)]
  have hr : rdF ((⟨#[33]⟩ : ByteArray) ++ s).size ((⟨#[33]⟩ : ByteArray) ++ s) = (rdF s.size s).map fun fr => (.neg fr.1, fr.2) := by
    rw [hs]
    simp only [rdF]
    rw [if_neg (by rw [hs]; omega), hb, if_neg (by unfold isLeaf; omega), if_pos rfl, hx]
    cases rdF s.size s <;> rfl
  rw [hr]
  rcases rdF s.size s with _ | ⟨f, r⟩
  · rfl
  · simp only [Option.map_some]
    split <;> rfl
theorem fm_a : (fmOf (⟨#[97]⟩ : ByteArray)).isSome = true := by
  have hb : bt ⟨#[97]⟩ 0 = 97 := by rfl
  have hs : (ByteArray.mk #[97]).size = 1 := rfl
  have h1 : rdF 1 ⟨#[97]⟩ = some (.leaf 97, (ByteArray.mk #[97]).extract 1 (ByteArray.mk #[97]).size) := by
    simp only [rdF]
    rw [hb, if_neg (by rw [hs]; omega), if_pos (by unfold isLeaf; omega)]
  unfold fmOf
  rw [if_neg (by rw [hs]; omega), show rdF (ByteArray.mk #[97]).size ⟨#[97]⟩ = rdF 1 ⟨#[97]⟩ from rfl, h1]
  simp only []
  rw [if_pos (by rw [ext_size, hs])]; rfl
theorem fm_nil : (fmOf (⟨#[]⟩ : ByteArray)).isSome = false := by
  have hs : (ByteArray.mk #[]).size = 0 := rfl
  unfold fmOf
  rw [if_neg (by rw [hs]; omega), show rdF (ByteArray.mk #[]).size ⟨#[]⟩ = none from rfl]
  rfl
theorem laws_FnFormulaOk.ev (l : List Int) (h : Bytes l) : Ev (fun k => laws_FnFormulaOk.f k l) true := by
  unfold laws_FnFormulaOk.f
  by_cases hl : (l.length : Int) > 1048576
  · exact Ev.ite_pos hl (Ev.now _)
  refine Ev.ite_neg hl ?_
  obtain ⟨s, hs, hs2⟩ := drawFormulaOk_ev h
  refine Ev.bind hs (Ev.pbind rfl (Ev.bind (spec_FormulaOk.ev s) ?_))
  refine Ev.ite_neg (by simp) ?_
  by_cases h60 : (s.size : Int) ≥ 60
  · exact Ev.ite_pos h60 (Ev.pbind rfl (Ev.ite_pos fm_a (Ev.pbind rfl (Ev.ite_neg (by rw [fm_nil]; simp) (Ev.bind alive_ev (Ev.now _))))))
  · exact Ev.ite_neg h60 (Ev.ite_pos (by omega) (Ev.pbind rfl (Ev.ite_pos (by rw [fm_bang (by omega)]; simp) (Ev.pbind rfl (Ev.ite_pos fm_a (Ev.pbind rfl (Ev.ite_neg (by rw [fm_nil]; simp) (Ev.bind alive_ev (Ev.now _)))))))))
end Go.Proofs.Ytdoomkcgdcfmlaa.Print
namespace Go.Proofs.Ytdoomkcgdcfmlaa.Pure
open Go.RowKit Go.Proofs.Ytdoomkcgdcfmlaa.Print Go.Proofs.YtdoomkcgdcfmlaaW.PrintWords Go.Proofs.YtdoomkcgdcfmlaaW.PrintLast Go.Proofs.YtdoomkcgdcfmlaaW.PrintMore
theorem FnFormulaOk : laws_FnFormulaOk.Pure := fun l _ _ hw => (laws_FnFormulaOk.ev l fun x hx => by
  have := hw x hx
  first | exact Go.RowKit.bounds_u8 this | exact Go.ChangeShapes.bounds_u8 this | exact bounds_u8 this | (simp [Lit.wf, IntKind.wf] at this; omega) | (simp [Lit.wf] at this; omega)).rounds
end Go.Proofs.Ytdoomkcgdcfmlaa.Pure
end
section
namespace Go.Proofs.YtdoomkcgdcfmlaaW.PrintWords
open Go.ChangeShapes Go.WideShapes
theorem sized_ints {H : Type} {enc : TypeId × Value → H} {P : Program} {W : World} {base : Nat} {spare : Nat → Bool} {held : Bool} {t e : TypeId} {k : IntKind} {a : Option Addr} {len cap : Nat} {d : DataW H} {ps : List MemPlace} {ts : List TypeId} {ds : List (DataW H)} {j : Nat}
    (hsz : (DataW.weightsEach P ts ds).all (· ≤ reachBytes) = true) (ht : ts[j]? = some t) (hd : ds[j]? = some d) (hu : P.underlying t = some (.slice e)) (he : P.underlying e = some (.int k)) (hc : P.cellsOf e = 1) {B : Nat} (hB : P.bytesOf e = B)
    (h : DataW.Trod enc P W base spare held t (.slice a len cap) d ps) : len * B ≤ 140737488351232 := by
  obtain ⟨fuel, hf⟩ := h
  rcases open_ints hu he hc hf with ⟨hcs, _⟩ | ⟨x, l, c, zs, hcs, _, hl, _, hz, hx, _, _⟩
  · simp [Value.cells] at hcs
    obtain ⟨rfl, rfl, rfl⟩ := hcs
    simp
  · simp [Value.cells] at hcs
    obtain ⟨rfl, rfl, rfl⟩ := hcs
    obtain ⟨hx, _⟩ := Prod.mk.inj hx
    subst hx
    have z := sized_slice hsz ht hd hu
    rw [hB] at z
    have hl2 : len ≤ zs.length := by
      rw [hz]
      split
      · exact hl
      · exact Nat.le_refl _
    have h1 : (lits (H := H) k (zs.take len)).length + (lits (H := H) k (zs.drop len)).length = zs.length := by
      simp [lits]
      omega
    rw [h1] at z
    exact Nat.le_trans (Nat.mul_le_mul_right _ hl2) z
end Go.Proofs.YtdoomkcgdcfmlaaW.PrintWords
end
