/- Part 1 of what this is proved by: The program's StatesOf returns what the reference's returns, for all arguments. -/
import Derived.Test.YthideghgdmokkaaLA6
import Derived.Below
import Derived.Deep.Draws
import Derived.Deep.AppendLies
import Derived.Maps.AppendAt
import Derived.OwnWalk
import Derived.Laws.BytesArg
import Derived.Laws.MakeOwn
import Derived.Laws.OwnMore
import Derived.Deep.OwnRows
import Derived.Tactics
import Derived.Lib.ConvBytes
import Derived.Laws.Slices
import Derived.WalkKit
import Derived.KernelRfl
import Derived.RowKit3
import Derived.Deep.LoopGhost
import Derived.Deep.QuietTactic
import Derived.BigQuiet
import Derived.WideLaws
import Derived.Deep.DeepCutAuto
import Derived.Deep.CutBlock
import Derived.Deep.RegionHeld3
import Derived.Laws.Rows
import Derived.Lib.AppendStr
import Derived.ArgAppend
import Derived.Laws.IdiomCopy
import Derived.RowKit
section
set_option linter.unusedVariables false
set_option linter.unusedSimpArgs false
namespace Go.Proofs.YthideghgdmokkaaW.PrintWords
open Go.RowKit
theorem more_rounds {α : Type} {g : Nat → Option α} (h : ∀ k, LeO (g k) (g (k + 1))) (k : Nat) : ∀ j, LeO (g k) (g (k + j))
  | 0 => LeO.refl _
  | j + 1 => (more_rounds h k j).trans (h (k + j))
theorem at_rounds {α : Type} {g : Nat → Option α} (h : ∀ k, LeO (g k) (g (k + 1))) {k k' : Nat} (hk : k ≤ k') {r : α} (hr : g k = some r) : g k' = some r := by
  have := more_rounds h k (k' - k) r hr
  rwa [Nat.add_sub_cancel' hk] at this
theorem KeepBut.of_grown {w w1 : World} {row : Option Nat} (h : w.grownBy w1 row) (g : Nat) : KeepBut w w1 g row := ⟨h.size, fun i hi _ hr => h.block i hi hr⟩
theorem Ev.of {α : Type} {g : Nat → Option α} {r : α} (hg : ∀ k, LeO (g k) (g (k + 1))) {k : Nat} (h : g k = some r) : Ev g r := ⟨k, fun _ hk => at_rounds hg hk h⟩
end Go.Proofs.YthideghgdmokkaaW.PrintWords
end
section
namespace Go.Proofs.YthideghgdmokkaaW.PrintWords
open Go.RowKit
namespace Kd
section
variable {α β : Type} {d : Kd α} {d' : Kd β} {e e' : Nat} {w w1 W : World} {base b : Nat} {ok ok' okv oku : Nat → Prop} {u v : Value} {xs : List α} {ys : List β}
theorem S_drop (h : S d e w base (fun k => ok k ∧ ok' k) u xs) : S d e w base ok u xs := S_mono h (fun _ hk => hk.1)
end
end Kd
end Go.Proofs.YthideghgdmokkaaW.PrintWords
end
section
namespace Go.Proofs.YthideghgdmokkaaW.PrintWords
open Go.RowKit
section
variable {w W W2 : World} {S S2 S' : Nat → Prop}
theorem Kept.of_grown {row : Option Nat} (hg : W.grownBy W2 row) (h : Kept w W S) (hr : ∀ k, row = some k → S k ∨ w.heap.size ≤ k) : Kept w W2 S :=
  h.then_ (S2 := fun k => row = some k) ⟨hg.size, fun i hi hn => hg.block i hi (fun he => hn he.symm)⟩ hr
theorem cell_kept {a : Addr} {v : Value} (hc : W.cell? a = some v) (hk : Kept W W2 S) (hne : ¬ S a.block) : W2.cell? a = some v := by
  have := hk.2 a.block (World.block_lt_of_cell? W a hc) hne
  simpa [World.cell?, this] using hc
end
namespace Kd
section
variable {α : Type} {d : Kd α} {e base n c : Nat} {ok oki S S2 : Nat → Prop} {w w0 W W1 W2 : World} {v : Value} {A : Option Addr} {xs : List α} {i : Int} {cs : List Value}
theorem S_kept (h : Kd.S d e W base ok v xs) (hk : Kept W W2 S) (hne : ∀ k, ok k → ¬ S k) : Kd.S d e W2 base ok v xs := S_step h (fun k ho hlt => hk.2 k hlt (hne k ho))
theorem H_kept (h : Kd.H d e W base ok v xs i oki cs) (hk : Kept W W2 S) (hne : ∀ k, ok k → ¬ oki k → ¬ S k) : Kd.H d e W2 base ok v xs i oki cs := H_step h (fun k ho hn hlt => hk.2 k hlt (hne k ho hn))
end
end Kd
end Go.Proofs.YthideghgdmokkaaW.PrintWords
end
section
namespace Go.Proofs.Ythideghgdmokkaa.Print
open Go.RowKit Go.Proofs.YthideghgdmokkaaW.PrintWords Go.Proofs.YthideghgdmokkaaW.PrintLast Go.Proofs.YthideghgdmokkaaW.PrintMore
set_option linter.unusedVariables false
set_option linter.unusedSimpArgs false
open Oml
namespace View
section
variable {W W1 : World} {g : Nat} {U : List (List Int)} {N : List Int} {v : Adr} (h : View W g U N v)
include h
theorem f4 : W.cell? ⟨g, 4, none⟩ = some (.int .i64 (noI U)) := (blk_cell h.blk 4).trans rfl
end
end View
end Go.Proofs.Ythideghgdmokkaa.Print
end
section
namespace Go.Proofs.Ythideghgdmokkaa.Print
open Go.RowKit Go.Proofs.YthideghgdmokkaaW.PrintWords Go.Proofs.YthideghgdmokkaaW.PrintLast Go.Proofs.YthideghgdmokkaaW.PrintMore
set_option linter.unusedVariables false
set_option linter.unusedSimpArgs false
open Oml
def impl_StatesOf.f (l0_0 : List (List Int)) (l0_1 : List Int) : Option (List Int) := some (if logicB l0_0 l0_1 = true then stL l0_0 l0_1 else [])
set_option maxHeartbeats 4000000 in
set_option maxRecDepth 100000 in
theorem impl_StatesOf.calls (A0_0 : Option Addr) (c0_0 : Nat) (l0_0 : List (List Int)) (A0_1 : Option Addr) (c0_1 : Nat) (l0_1 : List Int) (r : List Int) (w : World) (hr0_0 : Kd.C (Kd.slice 3 (Kd.int .i64)) w A0_0 l0_0.length l0_0) (hc0_0 : l0_0.length ≤ c0_0) (hr0_1 : Kd.C (Kd.int .i64) w A0_1 l0_1.length l0_1) (hc0_1 : l0_1.length ≤ c0_1) (h : impl_StatesOf.f l0_0 l0_1 = some r) :
    Calls Try.prog 20 #[.agg #[.slice A0_0 l0_0.length c0_0, .slice A0_1 l0_1.length c0_1]] w fun e w' => ∃ v0_ : Value, e = .returned (v0_) ∧ Kd.R (Kd.int .i64) 3 w' w.heap.size (fun _ => True) v0_ r ∧ Below w.heap.size w w' := by
  obtain ⟨k, hF⟩ := told_facts l0_0
  have hu30 := Try.underlying28
  have hu70 := Try.underlying81
  have HF := Aside0.mk hF
  have HR0 := Aside0.mk hr0_0
  have HC0 := Aside0.mk hc0_0
  have HR1 := Aside0.mk hr0_1
  have HC1 := Aside0.mk hc0_1
  simp only [impl_StatesOf.f, Option.some.injEq] at h
  clear hr0_0 hc0_0 hr0_1 hc0_1 hF
  cases hL : logicB l0_0 l0_1 with
  | false =>
    rw [hL] at h
    have hr_ : [] = r := by simpa using h
    subst hr_
    have HLB := Aside0.mk hL
    clear h hL
    go_enter Try.func20, Try.ntmps20
    go_wp2_with (first | ((with_reducible refine gate_dst (N := 1) rfl ?_); refine box_event ?hg (N := 1) ?hd (cs := #[.slice A0_0 l0_0.length c0_0, .slice A0_1 l0_1.length c0_1]) (t := 28) ?hr ?_; (case hd => rfl); (case hg => rfl); (case hr => first | (go_simp; done) | (go_simp; rfl)); intro gb hg_ w1 hbox hb; have HB := Aside0.mk hb; have hx0 : w1.cell? ⟨gb, 0, none⟩ = some (.slice A0_0 l0_0.length c0_0) := (blk_cell hbox 0).trans rfl; have hx1 : w1.cell? ⟨gb, 1, none⟩ = some (.slice A0_1 l0_1.length c0_1) := (blk_cell hbox 1).trans rfl; have HX := Aside0.mk hbox; clear hbox hb hg_) | (go_at_call 57; (with_reducible refine (told_n k _ _ l0_0 _ _ l0_1 _ ?s1 ?s2 ?s3 ?s4 HF.out HLB.out).mono ?_); (case s1 => exact Kd.C_below HR0.out HB.out); (case s2 => exact HC0.out); (case s3 => exact Kd.C_below HR1.out HB.out); (case s4 => exact HC1.out); rintro e w2 ⟨rfl, hb⟩; have HB2 := Aside0.mk (below_step HB.out hb); clear hb hx0 hx1 HX HB))
    go_ret
    exact ⟨_, rfl, Kd.R_nil _ _ _ _ _, by repeat (first | exact HB2.out | apply below_alloc | apply pw_below_drewN | apply below_drew1)⟩
  | true =>
    rw [hL] at h
    have hr_ : stL l0_0 l0_1 = r := by simpa using h
    subst hr_
    have HLB := Aside0.mk hL
    have HLg := Aside0.mk (logicB_iff.1 hL)
    have HSM := Aside0.mk (logicB_iff.1 hL).small
    clear h hL
    go_enter Try.func20, Try.ntmps20
    go_wp2_with (first | ((with_reducible refine gate_dst (N := 1) rfl ?_); refine box_event ?hg (N := 1) ?hd (cs := #[.slice A0_0 l0_0.length c0_0, .slice A0_1 l0_1.length c0_1]) (t := 28) ?hr ?_; (case hd => rfl); (case hg => rfl); (case hr => first | (go_simp; done) | (go_simp; rfl)); intro gb hg_ w1 hbox hb; have HB := Aside0.mk hb; have hx0 : w1.cell? ⟨gb, 0, none⟩ = some (.slice A0_0 l0_0.length c0_0) := (blk_cell hbox 0).trans rfl; have hx1 : w1.cell? ⟨gb, 1, none⟩ = some (.slice A0_1 l0_1.length c0_1) := (blk_cell hbox 1).trans rfl; have HX := Aside0.mk hbox; clear hbox hb hg_) | (go_at_call 57; (with_reducible refine (told_y k _ _ l0_0 _ _ l0_1 _ ?s1 ?s2 ?s3 ?s4 HF.out HLB.out).mono ?_); (case s1 => exact Kd.C_below HR0.out HB.out); (case s2 => exact HC0.out); (case s3 => exact Kd.C_below HR1.out HB.out); (case s4 => exact HC1.out); rintro e w2 ⟨g, v, rfl, hv, hge, hb⟩; have HB2 := Aside0.mk (below_step HB.out hb); have HV := Aside0.mk hv; clear hv hge hb hx0 hx1 HX HB) | (go_at_call 60; (with_reducible refine (states_calls g l0_0 l0_1 v _ HLg.out HV.out).mono ?_); rintro e w3 ⟨vs, rfl, ho, hb⟩; have HO3 := Aside0.mk (Kd.R_lower ho (below_size HB2.out)); have HB3 := Aside0.mk (below_step HB2.out hb); clear ho hb))
    go_ret
    exact ⟨_, rfl, HO3.out, by repeat (first | exact HB3.out | apply pw_below_drewN | apply below_drew1)⟩
end Go.Proofs.Ythideghgdmokkaa.Print
end
section
namespace Go.Proofs.Ythideghgdmokkaa.Print
open Go.RowKit Go.Proofs.YthideghgdmokkaaW.PrintWords Go.Proofs.YthideghgdmokkaaW.PrintLast Go.Proofs.YthideghgdmokkaaW.PrintMore
set_option linter.unusedVariables false
set_option linter.unusedSimpArgs false
def laws_markIntS.l0 : Nat → List Int → Int → Int → Option (Int × List Int)
  | 0, _, _, _ => none
  | k + 1, x0, x1, x5 => if x5 < (x0.length : Int) then (if 0 ≤ x5 then (laws_markIntS.l0 k (x0.set (x5 : Int).toNat x1) (wrap64 (x1 + 1)) (wrap64 (x5 + 1))) else (none)) else (some (x1, x0))
def laws_markIntS.f (k : Nat) (l0 : List Int) (a1 : Int) : Option (Int × List Int) := laws_markIntS.l0 k l0 a1 0
set_option maxHeartbeats 8000000 in
set_option maxRecDepth 100000 in
theorem laws_markIntS.calls (k : Nat) (P0_ : Nat → Prop) (u9000_ : Value) (l0 : List Int) (a1 : Int) (r1 : Int) (r2 : List Int) (w0 w : World) (hB : Below w0.heap.size w0 w) (ho0 : Kd.R (Kd.int .i64) 3 w w0.heap.size P0_ u9000_ l0) (h : laws_markIntS.f k l0 a1 = some (r1, r2)) :
    Calls Try.prog 23 #[u9000_, .int .i64 a1] w fun e w' => e = .returned (.int .i64 r1) ∧ Kd.R (Kd.int .i64) 3 w' w0.heap.size (fun k_ => (P0_ k_ ∨ w.heap.size ≤ k_)) u9000_ r2 ∧ Below w0.heap.size w0 w' ∧ Kept w w' (fun k_ => P0_ k_) := by
  have HO0 := Aside0.mk (show Kd.R (Kd.int .i64) 3 w w0.heap.size (fun k_ => (P0_ k_ ∨ w.heap.size ≤ k_)) u9000_ l0 from Kd.R_mono ho0 (fun k_ hk => (.inl hk)))
  have HK := Aside0.mk (Kept.refl w (fun k_ => P0_ k_))
  have HW0 := Aside0.mk hB.size
  have HB := Aside0.mk hB
  clear hB
  have H : (laws_markIntS.l0 k l0 a1 0) = some (r1, r2) := h
  clear h
  have H' := Aside0.mk H
  clear H
  go_enter Try.func23, Try.ntmps23
  go_wp2
  go_loopg [1, 5] k (fun kq v1 v5 w' => ∃ (x0_1 : List Int) (x1_1 : Int) (x5_1 : Int), v1 = .int .i64 x1_1 ∧ v5 = .int .i64 x5_1 ∧ Aside0 (laws_markIntS.l0 kq x0_1 x1_1 x5_1 = some (r1, r2)) ∧ Aside0 (kq ≤ k) ∧ Aside0 (Kd.R (Kd.int .i64) 3 w' w0.heap.size (fun k_ => (P0_ k_ ∨ w.heap.size ≤ k_)) u9000_ x0_1) ∧ Aside0 (Kept w w' (fun k_ => P0_ k_)) ∧ Aside0 (Below w0.heap.size w0 w'))
  case atStart => exact ⟨(l0), (a1), (0), (by first | rfl | (simp; done) | (simp [*]; done)), (by first | rfl | (simp; done) | (simp [*]; done)), H', ⟨Nat.le_refl _⟩, ⟨by (with_reducible repeat (first | apply Kd.R_alloc | apply Kd.R_drewN | apply Kd.R_drew)); exact HO0.out⟩, ⟨by repeat (first | (with_reducible first | exact HK.out | apply Kept.alloc | apply Kept.drewN | apply Kept.drew) | exact HK.out)⟩, ⟨by repeat (first | (with_reducible first | exact HB.out | apply below_alloc | apply pw_below_drewN | apply below_drew1) | exact HB.out)⟩⟩
  case round =>
    clear H'
    try clear c2
    try clear p2
    obtain ⟨x0_1, x1_1, x5_1, rfl, rfl, HA, HK1, HO_0, HK, HB⟩ := hrel
    cases gk with
    | zero => exact absurd HA.out (by simp [laws_markIntS.l0])
    | succ k1 =>
      have H := HA.out
      clear HA
      simp only [laws_markIntS.l0] at H
      by_cases c3 : x5_1 < (x0_1.length : Int)
      · rw [if_pos c3] at H
        have c3b0 : decide (x5_1 < (x0_1.length : Int)) = true := decide_eq_true c3
        clear c3
        by_cases c4 : 0 ≤ x5_1
        · rw [if_pos c4] at H
          have c4b0 : decide (0 ≤ x5_1) = true := decide_eq_true c4
          clear c4
          obtain ⟨y309, hy309⟩ : ∃ y_ : List Int, y_ = (x0_1.set (x5_1 : Int).toNat x1_1) := ⟨_, rfl⟩
          replace H : (laws_markIntS.l0 k1 y309 (wrap64 (x1_1 + 1)) (wrap64 (x5_1 + 1))) = some (r1, r2) := by first | (rw [hy309]; with_reducible exact H) | (have H2_ := (Option.bind_some _ _).symm.trans H; rw [hy309]; with_reducible exact H2_) | (have H2_ := (Option.bind_some _ _).symm.trans H; with_reducible exact H2_) | with_reducible exact H | (rw [hy309]; exact H) | exact H
          have Ny309 := Aside0.mk hy309
          clear hy309
          have H' := Aside0.mk H
          clear H
          obtain ⟨Ao6, co6, eo6⟩ := Kd.R_slice HO_0.out
          subst eo6
          have p5 : 0 ≤ (x5_1 : Int) := of_decide_eq_true (by first | (with_reducible assumption) | assumption)
          have q5 : (x5_1 : Int) < ((x0_1.length : Int) : Int) := of_decide_eq_true (by first | (with_reducible assumption) | assumption)
          obtain ⟨go5, co5, eo5, gb5, gl5, cl5, HG5⟩ := Kd.R_form HO_0.out (by omega)
          (first | cases eo5 | (injection eo5 with ea_ en_ ec_; (first | subst ea_ | (injection ea_ with ea_; subst ea_)); subst ec_; clear en_))
          have GB5 := Aside0.mk gb5
          have GG5 := Aside0.mk HG5
          clear gb5 gl5 HG5
          have HMgo5 := Aside0.mk (show (P0_ go5 ∨ w.heap.size ≤ go5) from (HO_0.out.1 _ rfl))
          obtain ⟨hx5_0, hf5_0⟩ := Kd.R_celln 0 HO_0.out (x5_1 : Int) p5 q5
          replace p5 := eq_true p5
          replace q5 := eq_true q5
          have HP7 := Kd.R_putg HO_0.out (x5_1 : Int) x1_1
          go_wp2_with (first | ((with_reducible refine gate_store (t := 3) (p := 15) rfl ?_); refine store_event (t := 3) (p := 15) (v := ?vo_w8) (w1 := (wr.setCell ⟨go5, (x5_1 : Int).toNat, none⟩ (.int .i64 x1_1))) ?hg ?ho ?hn ?hr ?_; (case ho => rfl); (case hg => rfl); (case hn => rfl); (case hr => first | (go_simp; done) | (go_simp; rfl)); intro w8 hw; have hg : wr.grownBy w8 (some go5) := (by rw [hw]; exact HP7.2); have hp_ : Kd.R (Kd.int .i64) 3 w8 w0.heap.size (fun k_ => (P0_ k_ ∨ w.heap.size ≤ k_)) (.slice (some ⟨go5, 0, none⟩) x0_1.length co6) y309 := (by rw [hw, Ny309.out]; exact HP7.1); clear HP7; have n0_ := Aside0.mk (hp_); have n1_ := Aside0.mk ((by rw [hw]; exact below_set (HB.out) GB5.out : Below w0.heap.size w0 w8)); have n2_ := Aside0.mk (Kept.of_grown (S := (fun k_ => P0_ k_)) hg (by repeat (first | (with_reducible first | exact HK.out | apply Kept.alloc | apply Kept.drewN | apply Kept.drew) | exact HK.out)) (fun k_ e_ => (HO_0.out.1 k_ e_))); clear HO_0; clear HB; clear HK; have HO_0 := n0_; have HB := n1_; have HK := n2_; clear n0_ n1_ n2_; clear hg hw hp_))
          go_roundg k1
          case measure => have := HK1.out; omega
          case rel => exact ⟨(y309), (wrap64 (x1_1 + 1)), (wrap64 (x5_1 + 1)), (by first | rfl | (simp; done) | (simp [*]; done)), (by first | rfl | (simp; done) | (simp [*]; done)), H', ⟨by have := HK1.out; omega⟩, ⟨by (with_reducible repeat (first | apply Kd.R_alloc | apply Kd.R_drewN | apply Kd.R_drew)); exact HO_0.out⟩, ⟨by repeat (first | (with_reducible first | exact HK.out | apply Kept.alloc | apply Kept.drewN | apply Kept.drew) | exact HK.out)⟩, ⟨by repeat (first | (with_reducible first | exact HB.out | apply below_alloc | apply pw_below_drewN | apply below_drew1) | exact HB.out)⟩⟩
        · rw [if_neg c4] at H
          exact absurd H (by simp)
      · rw [if_neg c3] at H
        have c3b0 : decide (x5_1 < (x0_1.length : Int)) = false := decide_eq_false c3
        clear c3
        simp only [Option.some.injEq, Prod.mk.injEq] at H
        obtain ⟨rfl, rfl⟩ := H
        obtain ⟨Ao9, co9, eo9⟩ := Kd.R_slice HO_0.out
        subst eo9
        go_wp2
        go_ret
        exact ⟨by first | rfl | (simp [errW_none, errW_some] <;> rfl) | (simp [*, errW_none, errW_some] <;> rfl), by (with_reducible repeat (first | apply Kd.R_alloc | apply Kd.R_drewN | apply Kd.R_drew)); exact HO_0.out, by repeat (first | (with_reducible first | exact HB.out | apply below_alloc | apply pw_below_drewN | apply below_drew1) | exact HB.out), by repeat (first | (with_reducible first | exact HK.out | apply Kept.alloc | apply Kept.drewN | apply Kept.drew) | exact HK.out)⟩
end Go.Proofs.Ythideghgdmokkaa.Print
end
section
namespace Go.Proofs.Ythideghgdmokkaa.Print
open Go.RowKit Go.Proofs.YthideghgdmokkaaW.PrintWords Go.Proofs.YthideghgdmokkaaW.PrintLast Go.Proofs.YthideghgdmokkaaW.PrintMore
set_option linter.unusedVariables false
set_option linter.unusedSimpArgs false
def laws_heldIntS.l0 : Nat → List Int → Int → Int → Option (Int)
  | 0, _, _, _ => none
  | k + 1, x0, x1, x5 => if x5 < (x0.length : Int) then (if 0 ≤ x5 then (if (rd x0 x5) = x1 then (laws_heldIntS.l0 k x0 (wrap64 (x1 + 1)) (wrap64 (x5 + 1))) else (some (-1))) else (none)) else (some x1)
def laws_heldIntS.f (k : Nat) (l0 : List Int) (a1 : Int) : Option (Int) := laws_heldIntS.l0 k l0 a1 0
set_option maxHeartbeats 8000000 in
set_option maxRecDepth 100000 in
theorem laws_heldIntS.calls (k : Nat) (A0 : Option Addr) (c0 : Nat) (l0 : List Int) (a1 : Int) (r : Int) (w : World) (hr0 : Kd.C (Kd.int .i64) w A0 l0.length l0) (hc0 : l0.length ≤ c0) (h : laws_heldIntS.f k l0 a1 = some r) :
    Calls Try.prog 24 #[.slice A0 l0.length c0, .int .i64 a1] w fun e w' => e = .returned (.int .i64 r) ∧ Drawn0 w w' := by
  have HR0 := Aside0.mk hr0
  have HC0 := Aside0.mk hc0
  clear hr0 hc0
  have H : (laws_heldIntS.l0 k l0 a1 0) = some r := h
  clear h
  have H' := Aside0.mk H
  clear H
  go_enter Try.func24, Try.ntmps24
  go_wp2
  go_loopg [1, 5] k (fun kq v1 v5 w' => ∃ (x1_1 : Int) (x5_1 : Int), v1 = .int .i64 x1_1 ∧ v5 = .int .i64 x5_1 ∧ Aside0 (laws_heldIntS.l0 kq l0 x1_1 x5_1 = some r) ∧ Aside0 (kq ≤ k) ∧ Drawn0 w w')
  case atStart => exact ⟨(a1), (0), (by first | rfl | (simp; done) | (simp [*]; done)), (by first | rfl | (simp; done) | (simp [*]; done)), H', ⟨Nat.le_refl _⟩, by repeat (first | exact Drawn0.refl _ | apply Drawn0.step)⟩
  case round =>
    clear H'
    try clear c2
    try clear p2
    obtain ⟨x1_1, x5_1, rfl, rfl, HA, HK1, ⟨m1, rfl⟩⟩ := hrel
    cases gk with
    | zero => exact absurd HA.out (by simp [laws_heldIntS.l0])
    | succ k1 =>
      have H := HA.out
      clear HA
      simp only [laws_heldIntS.l0] at H
      by_cases c3 : x5_1 < (l0.length : Int)
      · rw [if_pos c3] at H
        have c3b0 : decide (x5_1 < (l0.length : Int)) = true := decide_eq_true c3
        clear c3
        by_cases c4 : 0 ≤ x5_1
        · rw [if_pos c4] at H
          have c4b0 : decide (0 ≤ x5_1) = true := decide_eq_true c4
          clear c4
          by_cases c5 : (rd l0 x5_1) = x1_1
          · rw [if_pos c5] at H
            have c5b0 : ((rd l0 x5_1) == x1_1) = true := beq_iff_eq.mpr c5
            have c5b1 : ((rd l0 x5_1) != x1_1) = false := bne_eq_false_iff_eq.mpr c5
            clear c5
            have H' := Aside0.mk H
            clear H
            have p312 : 0 ≤ (x5_1 : Int) := of_decide_eq_true (by first | (with_reducible assumption) | assumption)
            have q312 : x5_1 < (l0.length : Int) := of_decide_eq_true (by first | (with_reducible assumption) | assumption)
            obtain ⟨ad312, e312, hx312_0⟩ := Kd.at_int HR0.out x5_1 p312 q312
            cases e312
            replace p312 := eq_true p312
            replace q312 := eq_true q312
            go_wp2
            go_roundg k1
            case measure => have := HK1.out; omega
            case rel => exact ⟨(wrap64 (x1_1 + 1)), (wrap64 (x5_1 + 1)), (by first | rfl | (simp; done) | (simp [*]; done)), (by first | rfl | (simp; done) | (simp [*]; done)), H', ⟨by have := HK1.out; omega⟩, by repeat (first | exact Drawn0.refl _ | apply Drawn0.step)⟩
          · rw [if_neg c5] at H
            have c5b0 : ((rd l0 x5_1) == x1_1) = false := beq_eq_false_iff_ne.mpr c5
            have c5b1 : ((rd l0 x5_1) != x1_1) = true := bne_iff_ne.mpr c5
            obtain rfl := Option.some.inj H
            have p312 : 0 ≤ (x5_1 : Int) := of_decide_eq_true (by first | (with_reducible assumption) | assumption)
            have q312 : x5_1 < (l0.length : Int) := of_decide_eq_true (by first | (with_reducible assumption) | assumption)
            obtain ⟨ad312, e312, hx312_0⟩ := Kd.at_int HR0.out x5_1 p312 q312
            cases e312
            replace p312 := eq_true p312
            replace q312 := eq_true q312
            go_wp2
            go_ret
            exact ⟨by first | rfl | (simp; done) | (simp [*]; done), by repeat (first | exact Drawn0.refl _ | apply Drawn0.step)⟩
        · rw [if_neg c4] at H
          exact absurd H (by simp)
      · rw [if_neg c3] at H
        have c3b0 : decide (x5_1 < (l0.length : Int)) = false := decide_eq_false c3
        clear c3
        obtain rfl := Option.some.inj H
        go_wp2
        go_ret
        exact ⟨by first | rfl | (simp; done) | (simp [*]; done), by repeat (first | exact Drawn0.refl _ | apply Drawn0.step)⟩
end Go.Proofs.Ythideghgdmokkaa.Print
end
section
namespace Go.Proofs.Ythideghgdmokkaa.Print
open Go.RowKit Go.Proofs.YthideghgdmokkaaW.PrintWords Go.Proofs.YthideghgdmokkaaW.PrintLast Go.Proofs.YthideghgdmokkaaW.PrintMore
set_option linter.unusedVariables false
set_option linter.unusedSimpArgs false
open Oml
def numL (k : Int) (n : Nat) : List Int := (List.range n).map fun (i : Nat) => k + (i : Int)
theorem numL_length (k : Int) (n : Nat) : (numL k n).length = n := by simp [numL]
theorem numL_succ (k : Int) (n : Nat) : numL k (n + 1) = numL k n ++ [k + n] := by simp [numL, List.range_succ]
theorem numL_at (k : Int) (n i : Nat) (h : i < n) : at1 (numL k n) i = k + i := by simp [numL, at1, h]
def lenSum : List (List Int) → Nat
  | [] => 0
  | r :: rs => r.length + lenSum rs
def markR : List (List Int) → Int → List (List Int)
  | [], _ => []
  | r :: rs, k => numL k r.length :: markR rs (k + r.length)
theorem lenSum_append (a b : List (List Int)) : lenSum (a ++ b) = lenSum a + lenSum b := by
  induction a with
  | nil => simp [lenSum]
  | cons r rs ih => simp [lenSum, ih]; omega
theorem markR_append (a b : List (List Int)) (k : Int) : markR (a ++ b) k = markR a k ++ markR b (k + lenSum a) := by
  induction a generalizing k with
  | nil => simp [markR, lenSum]
  | cons r rs ih => simp only [List.cons_append, markR, lenSum, ih]; congr 2; congr 1; omega
theorem markR_length (a : List (List Int)) (k : Int) : (markR a k).length = a.length := by
  induction a generalizing k with
  | nil => rfl
  | cons r rs ih => simp [markR, ih]
theorem lenSum_take_le (a : List (List Int)) (i : Nat) : lenSum (a.take i) ≤ lenSum a := by
  have := lenSum_append (a.take i) (a.drop i)
  rw [List.take_append_drop] at this
  omega
theorem lenSum_mem {a : List (List Int)} {i : Nat} (h : i < a.length) : lenSum (a.take i) + (a.getD i []).length = lenSum (a.take (i + 1)) := by
  rw [List.take_succ_eq_append_getElem h, lenSum_append]
  simp [lenSum, List.getD_eq_getElem?_getD, h]
theorem lenSum_small {U : List (List Int)} (h1 : U.length ≤ 1048576) (h2 : ∀ r ∈ U, r.length ≤ 1048576) : lenSum U ≤ 1099511627776 := by
  have key : ∀ V : List (List Int), (∀ r ∈ V, r.length ≤ 1048576) → lenSum V ≤ V.length * 1048576 := by
    intro V
    induction V with
    | nil => intro _; simp [lenSum]
    | cons r rs ih =>
      intro h
      have h3 := h r List.mem_cons_self
      have h4 := ih fun q hq => h q (List.mem_cons_of_mem _ hq)
      simp only [lenSum, List.length_cons]
      omega
  have := key U h2
  have : U.length * 1048576 ≤ 1048576 * 1048576 := Nat.mul_le_mul_right _ h1
  omega
theorem wrap_to {x : Int} (h0 : -4611686018427387904 ≤ x) (h : x < 4611686018427387904) : wrap64 x = x := by unfold wrap64; omega
theorem markIntS_ev (xs : List Int) {k : Int} (h0 : 0 ≤ k) (hk : k ≤ 1152921504606846976) (hx : xs.length ≤ 1152921504606846976) : Ev (fun n => laws_markIntS.f n xs k) (k + xs.length, numL k xs.length) := by
  unfold laws_markIntS.f
  have key : ∀ d i, i + d = xs.length → Ev (fun n => laws_markIntS.l0 n (numL k i ++ xs.drop i) (k + i) (i : Int)) (k + xs.length, numL k xs.length) := by
    intro d
    induction d with
    | zero =>
      intro i hi
      obtain rfl : i = xs.length := by omega
      refine Ev.succ ?_
      simp only [laws_markIntS.l0, List.drop_length, List.append_nil, numL_length]
      repeat (first | ((with_reducible refine Ev.ite_pos ?_ ?_); (first | assumption | (focus omega) | (focus (simp; done)))) | ((with_reducible refine Ev.ite_neg ?_ ?_); (first | assumption | (focus omega) | (focus (simp; done)))))
      exact Ev.now _
    | succ d ih =>
      intro i hi
      have hlt : i < xs.length := by omega
      have hl : (numL k i ++ xs.drop i).length = xs.length := by rw [List.length_append, numL_length, List.length_drop]; omega
      refine Ev.succ ?_
      simp only [laws_markIntS.l0, hl, Int.toNat_natCast, wrap_nat (show i < 4611686018427387904 by omega)]
      repeat (first | ((with_reducible refine Ev.ite_pos ?_ ?_); (first | assumption | (focus omega) | (focus (simp; done)))) | ((with_reducible refine Ev.ite_neg ?_ ?_); (first | assumption | (focus omega) | (focus (simp; done)))))
      rw [wrap_to (by omega) (by omega), List.set_append_right _ _ (by rw [numL_length]; omega), numL_length, Nat.sub_self, List.drop_eq_getElem_cons hlt, List.set_cons_zero]
      have := ih (i + 1) (by omega)
      rw [numL_succ, List.append_assoc] at this
      rw [show k + (i : Int) + 1 = k + ((i + 1 : Nat) : Int) by omega]
      exact this
  exact (by simpa [numL] using key xs.length 0 (by omega))
theorem heldIntS_ev (n : Nat) {k : Int} (h0 : 0 ≤ k) (hk : k ≤ 1152921504606846976) (hx : n ≤ 1152921504606846976) : Ev (fun m => laws_heldIntS.f m (numL k n) k) (k + n) := by
  unfold laws_heldIntS.f
  have key : ∀ d i, i + d = n → Ev (fun m => laws_heldIntS.l0 m (numL k n) (k + i) (i : Int)) (k + n) := by
    intro d
    induction d with
    | zero =>
      intro i hi
      obtain rfl : i = n := by omega
      refine Ev.succ ?_
      simp only [laws_heldIntS.l0, numL_length]
      repeat (first | ((with_reducible refine Ev.ite_pos ?_ ?_); (first | assumption | (focus omega) | (focus (simp; done)))) | ((with_reducible refine Ev.ite_neg ?_ ?_); (first | assumption | (focus omega) | (focus (simp; done)))))
      exact Ev.now _
    | succ d ih =>
      intro i hi
      have hlt : i < n := by omega
      refine Ev.succ ?_
      simp only [laws_heldIntS.l0, numL_length, rd_nat, numL_at k n i hlt, wrap_nat (show i < 4611686018427387904 by omega)]
      repeat (first | ((with_reducible refine Ev.ite_pos ?_ ?_); (first | assumption | (focus omega) | (focus (simp; done)))) | ((with_reducible refine Ev.ite_neg ?_ ?_); (first | assumption | (focus omega) | (focus (simp; done)))))
      rw [wrap_to (by omega) (by omega), show k + (i : Int) + 1 = k + ((i + 1 : Nat) : Int) by omega]
      exact ih (i + 1) (by omega)
  exact (by simpa using key n 0 (by omega))
set_option maxHeartbeats 1000000 in
set_option maxRecDepth 100000 in
theorem markIntSS_calls (U : List (List Int)) (k0 : Int) (ok : Nat → Prop) (A : Option Addr) (c : Nat) (w0 w : World) (hB : Below w0.heap.size w0 w) (hS : Kd.S (Kd.slice 3 (Kd.int .i64)) 23 w w0.heap.size ok (.slice A U.length c) U)
    (h0 : 0 ≤ k0) (hk : k0 ≤ 1125899906842624) (h1 : U.length ≤ 1048576) (h2 : ∀ r ∈ U, r.length ≤ 1048576) :
    Calls Try.prog 61 #[.slice A U.length c, .int .i64 k0] w fun e w' => e = .returned (.int .i64 (k0 + lenSum U)) ∧ Kd.S (Kd.slice 3 (Kd.int .i64)) 23 w' w0.heap.size ok (.slice A U.length c) (markR U k0) ∧ Below w0.heap.size w0 w' ∧ Kept w w' ok := by
  have HG : Aside0 (0 < U.length → ∃ g, A = some ⟨g, 0, none⟩) := ⟨fun hp => by
    obtain ⟨g, cap, e, _⟩ := Kd.S_form hS hp
    injection e with e1
    exact ⟨g, e1⟩⟩
  have HS := Aside0.mk hS
  have HB := Aside0.mk hB
  have HL := Aside0.mk (lenSum_small h1 h2)
  have HR := Aside0.mk h2
  have HK0 := Aside0.mk h0
  have HK1 := Aside0.mk hk
  clear hS hB h2 h0 hk
  go_enter Try.func61, Try.ntmps61
  go_wp2_with fail
  go_loopg [1, 5] (U.length + 1) (fun kq v1 v5 W => ∃ i : Nat, v1 = .int .i64 (k0 + lenSum (U.take i)) ∧ v5 = .int .i64 i ∧ Aside0 (i + kq = U.length + 1) ∧ Aside0 (i ≤ U.length) ∧ Aside0 (Kd.S (Kd.slice 3 (Kd.int .i64)) 23 W w0.heap.size ok (.slice A U.length c) (markR (U.take i) k0 ++ U.drop i)) ∧ Aside0 (Kept w W ok) ∧ Aside0 (Below w0.heap.size w0 W))
  case atStart => exact ⟨0, by simp [lenSum], rfl, ⟨by omega⟩, ⟨by omega⟩, ⟨by simpa [markR] using HS.out⟩, ⟨Kept.refl _ _⟩, HB⟩
  case round =>
    obtain ⟨i, rfl, rfl, HQ, HQ2, HS1, HK2, HB1⟩ := hrel
    cases gk with
    | zero => exact absurd HQ.out (by have := HQ2.out; omega)
    | succ kn =>
    by_cases hlt : i < U.length
    · have hlt' : decide (i < U.length) = true := decide_eq_true hlt
      have HLT := Aside0.mk hlt
      obtain ⟨g, hA⟩ := HG.out (by omega)
      subst hA
      obtain ⟨oki, cs, hcl, hM, hcc, hoki, hH⟩ := Kd.S_lend HS1.out [] (i : Int) (by omega) (by omega)
      have hget : (markR (U.take i) k0 ++ U.drop i).getD (i : Int).toNat [] = U.getD i [] := by
        have hl : (markR (U.take i) k0).length = i := by rw [markR_length, List.length_take]; omega
        rw [Int.toNat_natCast, List.getD_eq_getElem?_getD, List.getElem?_append_right (by omega), hl, Nat.sub_self, List.getElem?_drop, Nat.add_zero, ← List.getD_eq_getElem?_getD]
      rw [hget] at hM
      obtain ⟨row, hrow⟩ : ∃ row, row = U.getD i [] := ⟨_, rfl⟩
      rw [← hrow] at hM
      obtain ⟨vr, rfl, hR⟩ := hM
      obtain ⟨Ar, cr, rfl⟩ := Kd.R_slice hR
      have hx := hcc 0 _ rfl
      simp only [Int.toNat_natCast, Kd.slice, Nat.mul_one, Nat.add_zero] at hx
      have p1 : (i < U.length) = True := eq_true hlt
      have HH := Aside0.mk hH
      have HO := Aside0.mk hoki
      have HRR := Aside0.mk hR
      have hsum := lenSum_mem hlt
      rw [← hrow] at hsum
      have hrl : row.length ≤ 1048576 := HR.out _ (by rw [hrow]; simp [hlt])
      have hts := lenSum_take_le U i
      obtain ⟨K, hK⟩ := (markIntS_ev row (k := k0 + lenSum (U.take i)) (by have := HK0.out; omega) (by have := HK1.out; have := HL.out; omega) (by omega)).rounds
      have HKF := Aside0.mk hK
      have HSUM := Aside0.mk hsum
      have HROW := Aside0.mk hrow
      clear hrow hcc hH hoki hR hget hsum hts hK hrl hcl hlt
      go_wp2_with (go_at_call 23; (with_reducible refine (laws_markIntS.calls K oki _ row _ _ _ w0 _ ?sB ?sO HKF.out).mono ?_); (case sB => exact HB1.out); (case sO => exact HRR.out); rintro e w2 ⟨rfl, ho, hb, hk⟩; have HO2 := Aside0.mk ho; have HB2 := Aside0.mk hb; have HK3 := Aside0.mk hk; clear ho hb hk)
      go_roundg kn
      case measure => omega
      case rel => exact ⟨i + 1, by rw [← HSUM.out]; congr 1; omega, by first | go_num | (rw [wrap_to (by omega) (by have := HLT.out; omega)]; go_num), ⟨by have := HQ.out; omega⟩, ⟨by have := HLT.out; omega⟩, ⟨by
        have hl : (markR (U.take i) k0).length = i := by rw [markR_length, List.length_take]; have := HLT.out; omega
        have h5 := Kd.H_back (Kd.H_kept HH.out HK3.out (fun _ _ hn => hn)) (x' := numL (k0 + lenSum (U.take i)) row.length) ⟨_, rfl, Kd.R_tight rfl HO2.out⟩ (fun k hk => HRR.out.1 k hk.symm)
        rw [Int.toNat_natCast, List.set_append_right _ _ (by omega), hl, Nat.sub_self, List.drop_eq_getElem_cons HLT.out, List.set_cons_zero] at h5
        rw [List.take_succ_eq_append_getElem HLT.out, markR_append, List.append_assoc]
        simp only [markR, List.singleton_append]
        rw [show U[i]'HLT.out = row by rw [HROW.out]; simp [List.getD_eq_getElem?_getD, HLT.out]]
        exact h5⟩, ⟨HK2.out.then_ HK3.out (fun k hk => .inl (HO.out k hk).1)⟩, HB2⟩
    · have hlt' : decide (i < U.length) = false := decide_eq_false hlt
      obtain rfl : i = U.length := by have := HQ2.out; omega
      clear hlt
      go_wp2_with fail
      go_ret
      have hS := HS1.out
      rw [List.take_length, List.drop_length, List.append_nil] at hS
      exact ⟨by first | rfl | (rw [List.take_length]; done) | (simp; done), hS, HB1.out, HK2.out⟩
set_option maxHeartbeats 1000000 in
set_option maxRecDepth 100000 in
theorem markLogic_calls (U : List (List Int)) (N : List Int) (k0 : Int) (ok0 ok1 : Nat → Prop) (A0 : Option Addr) (c0 : Nat) (A1 : Option Addr) (c1 : Nat) (w0 w : World) (hB : Below w0.heap.size w0 w) (hS : Kd.S (Kd.slice 3 (Kd.int .i64)) 23 w w0.heap.size ok0 (.slice A0 U.length c0) U)
    (hR : Kd.R (Kd.int .i64) 3 w w0.heap.size ok1 (.slice A1 N.length c1) N) (hd : ∀ k, ok1 k → ¬ ok0 k)
    (h0 : 0 ≤ k0) (hk : k0 ≤ 1099511627776) (h1 : U.length ≤ 1048576) (h2 : ∀ r ∈ U, r.length ≤ 1048576) (h3 : N.length ≤ 1048576) :
    Calls Try.prog 22 #[.agg #[.slice A0 U.length c0, .slice A1 N.length c1], .int .i64 k0] w fun e w' => e = .returned (.int .i64 (k0 + lenSum U + N.length)) ∧ Kd.S (Kd.slice 3 (Kd.int .i64)) 23 w' w0.heap.size ok0 (.slice A0 U.length c0) (markR U k0) ∧
      Kd.R (Kd.int .i64) 3 w' w0.heap.size ok1 (.slice A1 N.length c1) (numL (k0 + lenSum U) N.length) ∧ Below w0.heap.size w0 w' ∧ Kept w w' (fun k => ok0 k ∨ ok1 k) := by
  have hu30 := Try.underlying28
  have hls := lenSum_small h1 h2
  obtain ⟨K, hK⟩ := (markIntS_ev N (k := k0 + lenSum U) (by omega) (by omega) (by omega)).rounds
  have HKF := Aside0.mk hK
  have HS := Aside0.mk hS
  have HR := Aside0.mk hR
  have HB := Aside0.mk hB
  have HD := Aside0.mk hd
  have H0 := Aside0.mk h0
  have H1 := Aside0.mk (show k0 ≤ 1125899906842624 by omega)
  have H2 := Aside0.mk h2
  have HL1 := Aside0.mk h1
  clear hK hS hR hB hd h0 hk h2 h3 hls h1
  go_enter Try.func22, Try.ntmps22
  go_wp2_with (first | ((with_reducible refine gate_dst (N := 2) rfl ?_); refine box_event ?hg (N := 2) ?hd (cs := #[.slice A0 U.length c0, .slice A1 N.length c1]) (t := 28) ?hr ?_; (case hd => rfl); (case hg => rfl); (case hr => first | (go_simp; done) | (go_simp; rfl)); intro gb hg_ w1 hbox hb; have HBX := Aside0.mk hb; have HGB := Aside0.mk hg_; have hx0 : w1.cell? ⟨gb, 0, none⟩ = some (.slice A0 U.length c0) := (blk_cell hbox 0).trans rfl; have hx1 : w1.cell? ⟨gb, 1, none⟩ = some (.slice A1 N.length c1) := (blk_cell hbox 1).trans rfl; have HX := Aside0.mk hbox; clear hbox hb hg_) | (go_at_call 61; (with_reducible refine (markIntSS_calls U k0 (fun k => ok0 k ∧ k < w.heap.size) A0 c0 w0 _ ?sB ?sS H0.out H1.out HL1.out H2.out).mono ?_); (case sB => exact below_step HB.out HBX.out); (case sS => exact Kd.S_old HS.out HBX.out); rintro e w2 ⟨rfl, hs, hb, hk⟩; have HS2 := Aside0.mk (Kd.S_drop hs); have HB2 := Aside0.mk hb; have HK2 := Aside0.mk hk; have hx1' : w2.cell? ⟨gb, 1, none⟩ = some (.slice A1 N.length c1) := cell_kept hx1 hk (fun h => by have h3 : gb < w.heap.size := h.2; have := HGB.out; omega); have HR2 := Aside0.mk (Kd.R_kept (Kd.R_below HR.out HBX.out) hk (fun k hk h2 => HD.out k hk h2.1)); clear hs hb hk hx0 hx1) | (go_at_call 23; (with_reducible refine (laws_markIntS.calls K ok1 _ N _ _ _ w0 _ ?sB ?sO HKF.out).mono ?_); (case sB => exact HB2.out); (case sO => exact HR2.out); rintro e w3 ⟨rfl, ho, hb, hk⟩; have HO3 := Aside0.mk (Kd.R_mono (Kd.R_tight rfl ho) (fun k hk => HR2.out.1 k hk.symm)); have HB3 := Aside0.mk hb; have HK3 := Aside0.mk hk; clear ho hb hk hx1'))
  go_ret
  exact ⟨rfl, Kd.S_kept HS2.out HK3.out (fun k hk h2 => HD.out k h2 hk), HO3.out, HB3.out, ((Kept.of_below HBX.out _).then_ HK2.out (fun k hk => .inl (.inl hk.1))).then_ HK3.out (fun k hk => .inl (.inr hk))⟩
end Go.Proofs.Ythideghgdmokkaa.Print
end
section
namespace Go.Proofs.Ythideghgdmokkaa.Print
open Go.RowKit Go.Proofs.YthideghgdmokkaaW.PrintWords Go.Proofs.YthideghgdmokkaaW.PrintLast Go.Proofs.YthideghgdmokkaaW.PrintMore
set_option linter.unusedVariables false
set_option linter.unusedSimpArgs false
open Oml
section
variable {w W W1 : World} {gb gx : Nat} {A0 A1 A2 A3 Aw Ag : Option Addr} {c0 c1 c2 c3 cw cg e1 e2 n : Nat} {U : List (List Int)} {N V X : List Int}
theorem MkA.cell0 (h : MkA w W gb A0 c0 U A1 c1 N e1 Aw cw V) : W.cell? ⟨gb, 0, none⟩ = some (.slice A0 U.length c0) := (blk_cell h.bl 0).trans rfl
theorem MkA.cell1 (h : MkA w W gb A0 c0 U A1 c1 N e1 Aw cw V) : W.cell? ⟨gb, 1, none⟩ = some (.slice A1 N.length c1) := (blk_cell h.bl 1).trans rfl
theorem MkB.cell0 (h : MkB w W gx A2 c2 U A3 c3 N e1 e2) : W.cell? ⟨gx, 0, none⟩ = some (.slice A2 U.length c2) := (blk_cell h.bx 0).trans rfl
theorem MkB.cell1 (h : MkB w W gx A2 c2 U A3 c3 N e1 e2) : W.cell? ⟨gx, 1, none⟩ = some (.slice A3 N.length c3) := (blk_cell h.bx 1).trans rfl
theorem MkB.of (hA : MkA w W gb A0 c0 U A1 c1 N e1 Aw cw V) (he : W.heap.size = e1) {t2 : Value} (hb : Below W.heap.size W W1) (hs : Kd.S (Kd.slice 3 (Kd.int .i64)) 23 W1 W.heap.size (fun k => some k ≠ (Value.slice A3 N.length c3).ownBlock) (.slice A2 U.length c2) U) (hr : Kd.R (Kd.int .i64) 3 W1 W.heap.size (fun _ => True) (.slice A3 N.length c3) N) :
    MkB w (W1.alloc (.cells #[.slice A2 U.length c2, .slice A3 N.length c3] 28)) W1.heap.size A2 c2 U A3 c3 N e1 W1.heap.size where
  bx := (MapKept.heap_alloc W1 _).1
  el := by rw [← he]; exact hb.size
  ew := below_size (below_alloc (Below.refl _ _) _)
  rx0 := Kd.S_alloc (Kd.S_lower (Kd.S_mono (Kd.S_bound hs) (fun k hk => ⟨by rw [← he]; exact hk.2.1, hk.2.2.1, hk.1⟩)) (by have := hA.wl; omega)) _
  rx1 := Kd.R_alloc (Kd.R_lower (Kd.R_mono (Kd.R_bound (Kd.R_tight rfl hr)) (fun k hk => ⟨hk.1, by rw [← he]; exact hk.2.1, hk.2.2.1⟩)) (by have := hA.wl; omega)) _
theorem held_nums (A : Option Addr) (c n : Nat) (W : World) (hn : n ≤ 1152921504606846976) (h : Kd.C (Kd.int .i64) W A n (numL 1 n)) (hc : n ≤ c) :
    Calls Try.prog 24 #[.slice A n c, .int .i64 1] W fun e w' => e = .returned (.int .i64 (1 + n)) ∧ Drawn0 W w' := by
  obtain ⟨K, hK⟩ := (heldIntS_ev n (k := 1) (by omega) (by omega) hn).rounds
  have := laws_heldIntS.calls K A c (numL 1 n) 1 (1 + n) W (by rw [numL_length]; exact h) (by rw [numL_length]; exact hc) hK
  rwa [numL_length] at this
theorem mark_nums (A : Option Addr) (c e2 : Nat) (V : List Int) (W : World) (hn : V.length ≤ 1152921504606846976) (hb : Below w.heap.size w W) (h : MkC w W e2 A c V.length V) :
    Calls Try.prog 23 #[.slice A V.length c, .int .i64 1] W fun e w' => e = .returned (.int .i64 (1 + V.length)) ∧ MkC w w' e2 A c V.length (numL 1 V.length) ∧ Below w.heap.size w w' ∧ Kept W w' (fun k => e2 ≤ k) := by
  obtain ⟨K, hK⟩ := (markIntS_ev V (k := 1) (by omega) (by omega) hn).rounds
  refine (laws_markIntS.calls K (fun k => e2 ≤ k) _ V 1 _ _ w W hb h.rg hK).mono ?_
  rintro e w2 ⟨rfl, ho, hb2, hk⟩
  exact ⟨rfl, ⟨Nat.le_trans h.ew hk.1, Kd.R_mono (Kd.R_tight rfl ho) (fun k hk => h.rg.1 k hk.symm)⟩, hb2, hk⟩
theorem eq_nums (A B : Option Addr) (c d : Nat) (V : List Int) (W : World) (hn : V.length ≤ 1048576) (h1 : Kd.C (Kd.int .i64) W A V.length V) (hc : V.length ≤ c) (h2 : Kd.C (Kd.int .i64) W B V.length V) (hd : V.length ≤ d) :
    Calls Try.prog 21 #[.slice A V.length c, .slice B V.length d] W fun e w' => e = .returned (.bool true) ∧ Drawn0 W w' := by
  obtain ⟨K, hK⟩ := (eqIntS_ev V hn).rounds
  exact laws_eqIntS.calls K A c V B d V true W h1 hc h2 hd hK
end
end Go.Proofs.Ythideghgdmokkaa.Print
end
section
namespace Go.Proofs.Ythideghgdmokkaa.Print
open Go.RowKit Go.Proofs.YthideghgdmokkaaW.PrintWords Go.Proofs.YthideghgdmokkaaW.PrintLast Go.Proofs.YthideghgdmokkaaW.PrintMore
set_option linter.unusedVariables false
set_option linter.unusedSimpArgs false
open Oml
def laws_FnExactStatesOf.T10 : Bool × List (List Nat × List Nat) := (true, [([], []), ([], []), ([1], [1]), ([0, 2, 2], [0, 2]), ([3], [3])])
def laws_FnExactStatesOf.B10 : List Nat := [0, 0, 2, 7, 15]
theorem laws_FnExactStatesOf.tab10 : rtab .any (opsOf Try.f4 10) = laws_FnExactStatesOf.T10 := by kernel_rfl
theorem laws_FnExactStatesOf.bits10 : waitsOk laws_FnExactStatesOf.T10.2 laws_FnExactStatesOf.B10 = true := by kernel_rfl
set_option maxHeartbeats 4000000 in
set_option maxRecDepth 100000 in
theorem laws_FnExactStatesOf.holds (A0 : Option Addr) (c0 : Nat) (U : List (List Int)) (A1 : Option Addr) (c1 : Nat) (N : List Int) (w : World) (hf : FitL U N) (hr0 : Kd.C (Kd.slice 3 (Kd.int .i64)) w A0 U.length U) (hc0 : U.length ≤ c0) (hr1 : Kd.C (Kd.int .i64) w A1 N.length N) (hc1 : N.length ≤ c1) :
    Calls Try.prog 4 #[.agg #[.slice A0 U.length c0, .slice A1 N.length c1]] w fun e w' => e = .returned (.bool true) ∧ Below w.heap.size w w' := by
  obtain ⟨s, e1, e2⟩ := szLogic_ev hf
  obtain ⟨K1, h1⟩ := e1.rounds
  have hu26 := Try.underlying25
  have hu29 := Try.underlying28
  have HR0 := Aside0.mk hr0
  have HC0 := Aside0.mk hc0
  have HR1 := Aside0.mk hr1
  have HC1 := Aside0.mk hc1
  have H1 := Aside0.mk h1
  clear hr0 hc0 hr1 hc1 h1 e1
  by_cases hs : s < 0
  · have hs' : decide (s < 0) = true := decide_eq_true hs
    clear hs e2 hf
    go_enter Try.func4, Try.ntmps4
    go_wp2_with (first | ((with_reducible refine gate_dst (N := 1) rfl ?_); refine box_event ?hg (N := 1) ?hd (cs := #[.slice A0 U.length c0, .slice A1 N.length c1]) (t := 25) ?hr ?_; (case hd => rfl); (case hg => rfl); (case hr => first | (go_simp; done) | (go_simp; rfl)); intro gb hg_ w1 hbox hb; have HB1 := Aside0.mk hb; have HX1 := Aside0.mk hbox; have hx0 : w1.cell? ⟨gb, 0, none⟩ = some (.slice A0 U.length c0) := (blk_cell hbox 0).trans rfl; have hx1 : w1.cell? ⟨gb, 1, none⟩ = some (.slice A1 N.length c1) := (blk_cell hbox 1).trans rfl; clear hbox hb hg_) | (go_at_call 14; (with_reducible refine (laws_szLogic.calls K1 _ _ U _ _ N 1048576 s _ ?t1 ?t2 ?t3 ?t4 H1.out).mono ?_); (case t1 => exact Kd.C_below HR0.out HB1.out); (case t2 => exact HC0.out); (case t3 => exact Kd.C_below HR1.out HB1.out); (case t4 => exact HC1.out); rintro e w2 ⟨rfl, hb⟩; have HB2 := Aside0.mk (below_step HB1.out hb); have HX2 := Aside0.mk (blk_below HX1.out hb); clear hx0 hx1 hb; have hx0 : w2.cell? ⟨gb, 0, none⟩ = some (.slice A0 U.length c0) := (blk_cell HX2.out 0).trans rfl; have hx1 : w2.cell? ⟨gb, 1, none⟩ = some (.slice A1 N.length c1) := (blk_cell HX2.out 1).trans rfl))
    go_ret
    exact ⟨rfl, HB2.out⟩
  · have hs' : decide (s < 0) = false := decide_eq_false hs
    have HM := Aside0.mk (e2 (by omega))
    have hm_ : U.length ≤ 1048576 ∧ (∀ r ∈ U, r.length ≤ 1048576) ∧ N.length ≤ 1048576 := HM.out
    have HMM := Aside0.mk hm_
    clear hs e2 hf hm_
    obtain ⟨K2, h2⟩ := (toLogic_ev HM.out).rounds
    obtain ⟨V, hV⟩ : ∃ V, V = (if logicB U N = true then stL U N else []) := ⟨_, rfl⟩
    obtain ⟨K3, h3⟩ := (spec_StatesOf.ev U N).rounds
    have h4 : impl_StatesOf.f U N = some ((if logicB U N = true then stL U N else [])) := rfl
    rw [← hV] at h3 h4
    have hvl : V.length ≤ 1048576 := by rw [hV]; split; (rename_i hl_; exact Nat.le_trans (filI_length _ _) (Nat.le_trans (Nat.pow_le_pow_right (by omega) (logicB_iff.1 hl_).small) (by omega : 2 ^ 12 ≤ 1048576))); simp
    obtain ⟨K5, h5⟩ := (eqLogic_ev HM.out).rounds
    have H2 := Aside0.mk h2
    have H3 := Aside0.mk h3
    have H4 := Aside0.mk h4
    have H5 := Aside0.mk h5
    have HV := Aside0.mk hvl
    have HV2 := Aside0.mk (show V.length ≤ 1152921504606846976 by omega)
    obtain ⟨mk, hmk⟩ : ∃ mk : Int, 1 + (lenSum U : Int) + (N.length : Int) = mk := ⟨_, rfl⟩
    obtain ⟨mv, hmv⟩ : ∃ mv : Int, 1 + (V.length : Int) = mv := ⟨_, rfl⟩
    have hmk0 : decide (mk < 0) = false := decide_eq_false (by omega)
    have hmv0 : decide (mv < 0) = false := decide_eq_false (by omega)
    have HMK := Aside0.mk hmk
    have HMV := Aside0.mk hmv
    clear h2 h3 h4 h5 hvl hmk hmv hV
    have tok1 : True := trivial
    go_enter Try.func4, Try.ntmps4
    go_wp2_with (first | ((with_reducible refine gate_dst (N := 1) rfl ?_); refine box_event ?hg (N := 1) ?hd (cs := #[.slice A0 U.length c0, .slice A1 N.length c1]) (t := 25) ?hr ?_; (case hd => rfl); (case hg => rfl); (case hr => first | (go_simp; done) | (go_simp; rfl)); intro gb hg_ w1 hbox hb; have HB1 := Aside0.mk hb; have HX1 := Aside0.mk hbox; have hx0 : w1.cell? ⟨gb, 0, none⟩ = some (.slice A0 U.length c0) := (blk_cell hbox 0).trans rfl; have hx1 : w1.cell? ⟨gb, 1, none⟩ = some (.slice A1 N.length c1) := (blk_cell hbox 1).trans rfl; clear hbox hb hg_) | (go_at_call 14; (with_reducible refine (laws_szLogic.calls K1 _ _ U _ _ N 1048576 s _ ?t1 ?t2 ?t3 ?t4 H1.out).mono ?_); (case t1 => exact Kd.C_below HR0.out HB1.out); (case t2 => exact HC0.out); (case t3 => exact Kd.C_below HR1.out HB1.out); (case t4 => exact HC1.out); rintro e w2 ⟨rfl, hb⟩; have HB2 := Aside0.mk (below_step HB1.out hb); have HX2 := Aside0.mk (blk_below HX1.out hb); clear hx0 hx1 hb; have hx0 : w2.cell? ⟨gb, 0, none⟩ = some (.slice A0 U.length c0) := (blk_cell HX2.out 0).trans rfl; have hx1 : w2.cell? ⟨gb, 1, none⟩ = some (.slice A1 N.length c1) := (blk_cell HX2.out 1).trans rfl) | (have _t := tok1; go_at_call 16; (with_reducible refine (laws_toLogic.calls K2 _ _ U _ _ N U N _ ?t1 ?t2 ?t3 ?t4 H2.out).mono ?_); (case t1 => exact Kd.C_below HR0.out HB2.out); (case t2 => exact HC0.out); (case t3 => exact Kd.C_below HR1.out HB2.out); (case t4 => exact HC1.out); rintro e w3 ⟨v0, v1, rfl, hs, hr, hb⟩; obtain ⟨Ap, cp, rfl⟩ := Kd.S_slice hs; obtain ⟨Aq, cq, rfl⟩ := Kd.R_slice hr; have HB3 := Aside0.mk (below_step HB2.out hb); have HX3 := Aside0.mk (blk_below HX2.out hb); have HS3 := Aside0.mk hs; have HR3 := Aside0.mk hr; clear hs hr hb hx0 hx1 tok1 _t; have tok2 : True := trivial) | (go_at_call 19; (with_reducible refine (spec_StatesOf.calls K3 _ _ U _ _ N _ _ ?t1 ?t2 ?t3 ?t4 H3.out).mono ?_); (case t1 => exact (Kd.S_reads' HS3.out).2.2); (case t2 => exact (Kd.S_reads' HS3.out).2.1); (case t3 => exact (Kd.R_reads' HR3.out).2.2); (case t4 => exact (Kd.R_reads' HR3.out).2.1); rintro e w4 ⟨vw, rfl, ho, hb⟩; obtain ⟨Aw, cw, rfl⟩ := Kd.R_slice ho; have HA4 := Aside0.mk (show MkA w w4 gb A0 c0 U A1 c1 N w4.heap.size Aw cw V from ⟨below_step HB3.out hb, blk_below HX3.out hb, blk_lt (blk_below HX3.out hb), Nat.le_refl _, below_size (below_step HB3.out hb), Kd.R_lower (Kd.R_mono (Kd.R_bound ho) (fun k hk => hk.2.2.1)) (below_size HB3.out)⟩); have hx0 := HA4.out.cell0; have hx1 := HA4.out.cell1; clear ho hb HS3 HR3) | (have _t := tok2; go_at_call 16; (with_reducible refine (laws_toLogic.calls K2 _ _ U _ _ N U N _ ?t1 ?t2 ?t3 ?t4 H2.out).mono ?_); (case t1 => exact Kd.C_below HR0.out HA4.out.hb); (case t2 => exact HC0.out); (case t3 => exact Kd.C_below HR1.out HA4.out.hb); (case t4 => exact HC1.out); rintro e w5 ⟨v0, v1, rfl, hs, hr, hb⟩; obtain ⟨A2, c2, rfl⟩ := Kd.S_slice hs; obtain ⟨A3, c3, rfl⟩ := Kd.R_slice hr; have HB5 := Aside0.mk hb; have HS5 := Aside0.mk hs; have HR5 := Aside0.mk hr; clear hs hr hb hx0 hx1 tok2 _t))
    have HA6 := Aside0.mk ((HA4.out.below HB5.out).below (below_alloc (Below.refl w5.heap.size w5) (.cells #[.slice A2 U.length c2, .slice A3 N.length c3] 28)))
    have HQ6 := Aside0.mk (MkB.of (t2 := .slice none 0 0) HA4.out rfl HB5.out HS5.out HR5.out)
    have hq0 := HQ6.out.cell0
    have hq1 := HQ6.out.cell1
    clear HB5 HS5 HR5
    go_wp2_with (first | (go_at_call 20; (with_reducible refine (impl_StatesOf.calls A2 c2 U A3 c3 N  _ _ ?t1 ?t2 ?t3 ?t4 H4.out).mono ?_); (case t1 => exact (Kd.S_reads' HQ6.out.rx0).2.2); (case t2 => exact (Kd.S_reads' HQ6.out.rx0).2.1); (case t3 => exact (Kd.R_reads' HQ6.out.rx1).2.2); (case t4 => exact (Kd.R_reads' HQ6.out.rx1).2.1); rintro e w7 ⟨vg, rfl, ho, hb⟩; obtain ⟨Ag, cg, rfl⟩ := Kd.R_slice ho; have HA7 := Aside0.mk (HA6.out.below hb); have HQ7 := Aside0.mk (HQ6.out.below hb); have HC7 := Aside0.mk (show MkC w w7 w5.heap.size Ag cg V.length V from ⟨HQ7.out.ew, Kd.R_lower (Kd.R_mono (Kd.R_bound ho) (fun k hk => Nat.le_trans HQ6.out.ew hk.2.1)) (below_size HA6.out.hb)⟩); clear ho hb HA6 HQ6 hq0 hq1) | (go_at_call 21; (with_reducible refine (eq_nums Ag Aw cg cw V _ HV.out ?t1 ?t2 ?t3 ?t4).mono ?_); (case t1 => exact (Kd.R_reads' HC7.out.rg).2.2); (case t2 => exact (Kd.R_reads' HC7.out.rg).2.1); (case t3 => exact (Kd.R_reads' HA7.out.rw0).2.2); (case t4 => exact (Kd.R_reads' HA7.out.rw0).2.1); rintro e w' ⟨rfl, ⟨⟨nd, rfl⟩⟩⟩; have HA8 := Aside0.mk (HA7.out.below (pw_below_drewN (Below.refl _ _) nd)); have HQ8 := Aside0.mk (HQ7.out.below (pw_below_drewN (Below.refl _ _) nd)); have HC8 := Aside0.mk (HC7.out.below (pw_below_drewN (Below.refl _ _) nd)); clear HA7 HQ7 HC7))
    refine start_ (n := 5) (S := (fun w' => w'.cell? ⟨w5.heap.size, 0, none⟩ = some (.slice A2 U.length c2) ∧ w'.cell? ⟨w5.heap.size, 1, none⟩ = some (.slice A3 N.length c3) ∧ w'.cell? ⟨gb, 0, none⟩ = some (.slice A0 U.length c0) ∧ w'.cell? ⟨gb, 1, none⟩ = some (.slice A1 N.length c1))) (ds := []) #[false, false, false, false, false] (by kernel_rfl) rfl rfl ⟨(HQ8.out.below (below_drew1 (Below.refl _ _))).cell0, (HQ8.out.below (below_drew1 (Below.refl _ _))).cell1, (HA8.out.below (below_drew1 (Below.refl _ _))).cell0, (HA8.out.below (below_drew1 (Below.refl _ _))).cell1⟩ (fun hHeld => ?_)
    refine with_tabW laws_FnExactStatesOf.tab10 laws_FnExactStatesOf.bits10 (fun HT_ HW_ => ?_)
    have HA9 := Aside0.mk (HA8.out.below (below_drew1 (Below.refl _ _)))
    have HQ9 := Aside0.mk (HQ8.out.below (below_drew1 (Below.refl _ _)))
    have HC9 := Aside0.mk (HC8.out.below (below_drew1 (Below.refl _ _)))
    clear HA8 HQ8 HC8
    generalize (World.drewN w7 nd).drew = w9 at HA9 HQ9 HC9 hHeld ⊢
    refine take_ (i := 0) (N := some 27) (v := ?_) (a' := ?_) #[true, false, false, false, false] rfl rfl (take_ofW HT_.out HW_.out (by kernel_rfl)) (fun _ _ _ h => h) (Or.inl ⟨by rfl, ?_⟩) hHeld ?_ ?_
    rotate_left
    · rintro w' ⟨s0, s1, s2, s3⟩; go_simp; with_reducible rfl
    rotate_left
    · simp only [Act.put, List.setIfInBounds_toArray, List.set_cons_zero, List.set_cons_succ, i64_w, i32_w]; rfl
    refine take_ (i := 1) (N := some 28) (v := ?_) (a' := ?_) #[true, true, false, false, false] rfl rfl (take_ofW HT_.out HW_.out (by kernel_rfl)) (fun _ _ _ h => h) (Or.inl ⟨by rfl, ?_⟩) hHeld ?_ ?_
    rotate_left
    · rintro w' ⟨s0, s1, s2, s3⟩; go_simp; with_reducible rfl
    rotate_left
    · simp only [Act.put, List.setIfInBounds_toArray, List.set_cons_zero, List.set_cons_succ, i64_w, i32_w]; rfl
    refine one_ (i := 2) (N := some 29) #[true, true, true, false, false] rfl rfl (one_of HT_.out (by kernel_rfl)) (by decide) (fun K hK => ?_)
    refine goes_ Try.func16 (by kernel_rfl) rfl #[.agg #[.slice A0 U.length c0, .slice A1 N.length c1]] (by rfl) rfl rfl (by (try simp only [List.map_toArray, List.map_cons, List.map_nil]); first | done | rfl) ?_
    refine (laws_toLogic.calls K2 _ _ U _ _ N U N _ (Kd.C_below HR0.out HA9.out.hb) HC0.out (Kd.C_below HR1.out HA9.out.hb) HC1.out H2.out).mono ?_
    rintro e w10 ⟨v0, v1, rfl, hs, hr, hb⟩
    obtain ⟨A4, c4, rfl⟩ := Kd.S_slice hs
    obtain ⟨A5, c5, rfl⟩ := Kd.R_slice hr
    refine ⟨_, rfl, ?_⟩
    have HA10 := Aside0.mk (HA9.out.below hb)
    have HQ10 := Aside0.mk (HQ9.out.below hb)
    have HC10 := Aside0.mk (HC9.out.below hb)
    have HS10 := Aside0.mk hs
    have HR10 := Aside0.mk hr
    refine hK.out _ _ ⟨HQ10.out.cell0, HQ10.out.cell1, HA10.out.cell0, HA10.out.cell1⟩ (fun hHeld10 => ?_)
    clear hK K hs hr hb HA9 HQ9 HC9
    (try simp only [Act.put, List.setIfInBounds_toArray, List.set_cons_zero, List.set_cons_succ])
    refine one_ (i := 3) (N := some 30) #[true, true, true, true, false] rfl rfl (one_of HT_.out (by kernel_rfl)) (by decide) (fun K hK => ?_)
    refine goes_ Try.func18 (by kernel_rfl) rfl #[.agg #[.slice A2 U.length c2, .slice A3 N.length c3], .agg #[.slice A4 U.length c4, .slice A5 N.length c5]] (by rfl) rfl rfl (by (try simp only [List.map_toArray, List.map_cons, List.map_nil]); first | done | rfl) ?_
    refine (laws_eqLogic.calls K5 _ _ U _ _ N _ _ U _ _ N true _ (Kd.S_reads' HQ10.out.rx0).2.2 (Kd.S_reads' HQ10.out.rx0).2.1 (Kd.R_reads' HQ10.out.rx1).2.2 (Kd.R_reads' HQ10.out.rx1).2.1 (Kd.S_reads' HS10.out).2.2 (Kd.S_reads' HS10.out).2.1 (Kd.R_reads' HR10.out).2.2 (Kd.R_reads' HR10.out).2.1 H5.out).mono ?_
    rintro e w11 ⟨rfl, hb⟩
    refine ⟨_, rfl, ?_⟩
    have HA11 := Aside0.mk (HA10.out.below hb)
    have HQ11 := Aside0.mk (HQ10.out.below hb)
    have HC11 := Aside0.mk (HC10.out.below hb)
    refine hK.out _ _ ⟨HQ11.out.cell0, HQ11.out.cell1, HA11.out.cell0, HA11.out.cell1⟩ (fun hHeld11 => ?_)
    clear hK K hb HA10 HQ10 HC10 HS10 HR10
    (try simp only [Act.put, List.setIfInBounds_toArray, List.set_cons_zero, List.set_cons_succ])
    refine pure_ (i := 4) (N := some 31) (v := ?_) (a' := ?_) #[true, true, true, true, true] rfl rfl (any_of HT_.out (by kernel_rfl)) (fun _ _ _ h => h) (Or.inl ⟨by rfl, ?_⟩) ?_ ?_
    rotate_left
    · intro w'; go_simp; with_reducible rfl
    rotate_left
    · simp only [Act.put, List.setIfInBounds_toArray, List.set_cons_zero, List.set_cons_succ, i64_w, i32_w]; rfl
    refine done_ (done_of HT_.out (by kernel_rfl)) ?_
    have hq0 := HQ11.out.cell0
    have hq1 := HQ11.out.cell1
    have HE := Aside0.mk HQ11.out.el
    go_wp2_with (first | (go_at_call 22; (with_reducible refine (markLogic_calls U N 1 (fun k => w4.heap.size ≤ k ∧ k < w5.heap.size ∧ some k ≠ (Value.slice A3 N.length c3).ownBlock) (fun k => some k = (Value.slice A3 N.length c3).ownBlock ∧ w4.heap.size ≤ k ∧ k < w5.heap.size) A2 c2 A3 c3 w _ ?t0 ?t1 ?t2 ?t3 (by omega) (by omega) HMM.out.1 HMM.out.2.1 HMM.out.2.2).mono ?_); (case t0 => exact HA11.out.hb); (case t1 => exact HQ11.out.rx0); (case t2 => exact HQ11.out.rx1); (case t3 => exact fun k h1 h2 => h2.2.2 h1.1); rintro e w12 ⟨he, hs, hr, hb, hk⟩; rw [HMK.out] at he; subst he; have HA12 := Aside0.mk (HA11.out.kept hb hk (fun k h => h.elim (fun h => h.1) (fun h => h.2.1))); have HC12 := Aside0.mk (HC11.out.kept hk (fun k h => h.elim (fun h => h.2.1) (fun h => h.2.2))); clear hs hr hb hk HA11 HC11 hq0 hq1; have tok3 : True := trivial) | (have _t := tok3; go_at_call 21; (with_reducible refine (eq_nums Ag Aw cg cw V _ HV.out ?t1 ?t2 ?t3 ?t4).mono ?_); (case t1 => exact (Kd.R_reads' HC12.out.rg).2.2); (case t2 => exact (Kd.R_reads' HC12.out.rg).2.1); (case t3 => exact (Kd.R_reads' HA12.out.rw0).2.2); (case t4 => exact (Kd.R_reads' HA12.out.rw0).2.1); rintro e w' ⟨rfl, ⟨⟨nd2, rfl⟩⟩⟩; have HA13 := Aside0.mk (HA12.out.below (pw_below_drewN (Below.refl _ _) nd2)); have HC13 := Aside0.mk (HC12.out.below (pw_below_drewN (Below.refl _ _) nd2)); clear HA12 HC12 tok3 _t) | (go_at_call 23; (with_reducible refine (mark_nums Ag cg w5.heap.size V _ HV2.out HA13.out.hb HC13.out).mono ?_); rintro e w14 ⟨he, hc, hb, hk⟩; rw [HMV.out] at he; subst he; have HA14 := Aside0.mk (HA13.out.kept hb hk (fun k h => Nat.le_trans HE.out h)); have HC14 := Aside0.mk hc; clear hc hb hk HA13 HC13; have tok4 : True := trivial) | (have _t := tok4; go_at_call 24; (with_reducible refine (held_nums Ag cg V.length _ HV2.out ?t1 ?t2).mono ?_); (case t1 => exact (Kd.R_reads' HC14.out.rg).2.2 |> fun h => by rwa [numL_length] at h); (case t2 => exact (Kd.R_reads' HC14.out.rg).2.1); rintro e w' ⟨he, ⟨⟨nd3, rfl⟩⟩⟩; rw [HMV.out] at he; subst he; have HA15 := Aside0.mk (HA14.out.below (pw_below_drewN (Below.refl _ _) nd3)); have HC15 := Aside0.mk (HC14.out.below (pw_below_drewN (Below.refl _ _) nd3)); have hy0 := HA15.out.cell0; have hy1 := HA15.out.cell1; clear HA14 HC14 tok4 _t) | (go_at_call 16; (with_reducible refine (laws_toLogic.calls K2 _ _ U _ _ N U N _ ?t1 ?t2 ?t3 ?t4 H2.out).mono ?_); (case t1 => exact Kd.C_below HR0.out HA15.out.hb); (case t2 => exact HC0.out); (case t3 => exact Kd.C_below HR1.out HA15.out.hb); (case t4 => exact HC1.out); rintro e w16 ⟨v0, v1, rfl, hs, hr, hb⟩; obtain ⟨A6, c6, rfl⟩ := Kd.S_slice hs; obtain ⟨A7, c7, rfl⟩ := Kd.R_slice hr; have HA16 := Aside0.mk (HA15.out.below hb); have HC16 := Aside0.mk (HC15.out.below hb); have HS16 := Aside0.mk hs; have HR16 := Aside0.mk hr; clear hs hr hb hy0 hy1 HA15 HC15) | (go_at_call 20; (with_reducible refine (impl_StatesOf.calls A6 c6 U A7 c7 N  _ _ ?t1 ?t2 ?t3 ?t4 H4.out).mono ?_); (case t1 => exact (Kd.S_reads' HS16.out).2.2); (case t2 => exact (Kd.S_reads' HS16.out).2.1); (case t3 => exact (Kd.R_reads' HR16.out).2.2); (case t4 => exact (Kd.R_reads' HR16.out).2.1); rintro e w17 ⟨vh, rfl, ho, hb⟩; obtain ⟨Ah, ch, rfl⟩ := Kd.R_slice ho; have HA17 := Aside0.mk (HA16.out.below hb); have HC17 := Aside0.mk (HC16.out.below hb); have HO17 := Aside0.mk ho; have HBZ := Aside0.mk HA17.out.hb; clear ho hb HA16 HC16 HS16 HR16; have tok5 : True := trivial) | (have _t := tok5; go_at_call 21; (with_reducible refine (eq_nums Ah Aw ch cw V _ HV.out ?t1 ?t2 ?t3 ?t4).mono ?_); (case t1 => exact (Kd.R_reads' HO17.out).2.2); (case t2 => exact (Kd.R_reads' HO17.out).2.1); (case t3 => exact (Kd.R_reads' HA17.out.rw0).2.2); (case t4 => exact (Kd.R_reads' HA17.out.rw0).2.1); rintro e w' ⟨rfl, ⟨⟨nd4, rfl⟩⟩⟩; have HA18 := Aside0.mk (HA17.out.below (pw_below_drewN (Below.refl _ _) nd4)); have HC18 := Aside0.mk (HC17.out.below (pw_below_drewN (Below.refl _ _) nd4)); clear HA17 HC17 HO17 tok5 _t; have tok6 : True := trivial) | (have _t := tok6; go_at_call 24; (with_reducible refine (held_nums Ag cg V.length _ HV2.out ?t1 ?t2).mono ?_); (case t1 => exact (Kd.R_reads' HC18.out.rg).2.2 |> fun h => by rwa [numL_length] at h); (case t2 => exact (Kd.R_reads' HC18.out.rg).2.1); rintro e w' ⟨he, ⟨⟨nd5, rfl⟩⟩⟩; rw [HMV.out] at he; subst he; have HA19 := Aside0.mk (HA18.out.below (pw_below_drewN (Below.refl _ _) nd5)); clear HA18 HC18 tok6 _t))
    go_ret
    exact ⟨rfl, by repeat (first | exact HBZ.out | apply pw_below_drewN | apply below_drew1)⟩
end Go.Proofs.Ythideghgdmokkaa.Print
end
