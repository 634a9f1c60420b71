/- Part 6 of what is common to several claims of this seat: UpTo, Clear. -/
import Derived.Test.YtjoadckkdophnaaLA5
import Derived.Below
import Derived.Deep.Draws
import Derived.Deep.AppendLies
import Derived.Maps.AppendAt
import Derived.OwnWalk
import Derived.Laws.BytesArg
import Derived.Laws.MakeOwn
import Derived.Laws.OwnMore
import Derived.Deep.OwnRows
import Derived.Tactics
import Derived.Lib.ConvBytes
import Derived.Laws.Slices
import Derived.WalkKit
import Derived.KernelRfl
import Derived.RowKit3
import Derived.Deep.LoopGhost
import Derived.Deep.QuietTactic
import Derived.BigQuiet
import Derived.WideLaws
import Derived.Deep.DeepCutAuto
import Derived.Deep.CutBlock
import Derived.Deep.RegionHeld3
import Derived.Laws.Rows
import Derived.Lib.AppendStr
import Derived.ArgAppend
import Derived.Laws.IdiomCopy
import Derived.RowKit
import Derived.OrdersHeld
import Derived.Laws.BitsLemmas
import Derived.Test.YtjoadckkdophnaaProg
import Derived.Deep.Matrix
import Derived.Lib.SmallJoins
import Derived.Laws.Bits64b
section
namespace Go.Proofs.Ytjoadckkdophnaa.Print
open Go.RowKit Go.Proofs.YtjoadckkdophnaaW.PrintWords Go.Proofs.YtjoadckkdophnaaW.PrintLast Go.Proofs.YtjoadckkdophnaaW.PrintMore
set_option linter.unusedVariables false
set_option linter.unusedSimpArgs false
open Oml
def laws_FnExactUpToOf.T10 : Bool × List (List Nat × List Nat) := (true, [([], []), ([], []), ([1], [1]), ([0, 2, 2], [0, 2]), ([3], [3])])
def laws_FnExactUpToOf.B10 : List Nat := [0, 0, 2, 7, 15]
theorem laws_FnExactUpToOf.tab10 : rtab .any (opsOf Try.f11 10) = laws_FnExactUpToOf.T10 := by kernel_rfl
theorem laws_FnExactUpToOf.bits10 : waitsOk laws_FnExactUpToOf.T10.2 laws_FnExactUpToOf.B10 = true := by kernel_rfl
set_option maxHeartbeats 4000000 in
set_option maxRecDepth 100000 in
theorem laws_FnExactUpToOf.holds (A0 : Option Addr) (c0 : Nat) (U : List (List Int)) (A1 : Option Addr) (c1 : Nat) (N : List Int) (a1 : Int) (w : World) (hf : FitL U N) (hr0 : Kd.C (Kd.slice 3 (Kd.int .i64)) w A0 U.length U) (hc0 : U.length ≤ c0) (hr1 : Kd.C (Kd.int .i64) w A1 N.length N) (hc1 : N.length ≤ c1) :
    Calls Try.prog 11 #[.agg #[.slice A0 U.length c0, .slice A1 N.length c1], .int .i64 a1] w fun e w' => e = .returned (.bool true) ∧ Below w.heap.size w w' := by
  obtain ⟨s, e1, e2⟩ := szLogic_ev hf
  obtain ⟨K1, h1⟩ := e1.rounds
  have hu26 := Try.underlying26
  have hu29 := Try.underlying29
  have HR0 := Aside0.mk hr0
  have HC0 := Aside0.mk hc0
  have HR1 := Aside0.mk hr1
  have HC1 := Aside0.mk hc1
  have H1 := Aside0.mk h1
  clear hr0 hc0 hr1 hc1 h1 e1
  by_cases hs : s < 0
  · have hs' : decide (s < 0) = true := decide_eq_true hs
    clear hs e2 hf
    go_enter Try.func11, Try.ntmps11
    go_wp2_with (first | ((with_reducible refine gate_dst (N := 2) rfl ?_); refine box_event ?hg (N := 2) ?hd (cs := #[.slice A0 U.length c0, .slice A1 N.length c1]) (t := 26) ?hr ?_; (case hd => rfl); (case hg => rfl); (case hr => first | (go_simp; done) | (go_simp; rfl)); intro gb hg_ w1 hbox hb; have HB1 := Aside0.mk hb; have HX1 := Aside0.mk hbox; have hx0 : w1.cell? ⟨gb, 0, none⟩ = some (.slice A0 U.length c0) := (blk_cell hbox 0).trans rfl; have hx1 : w1.cell? ⟨gb, 1, none⟩ = some (.slice A1 N.length c1) := (blk_cell hbox 1).trans rfl; clear hbox hb hg_) | (go_at_call 17; (with_reducible refine (laws_szLogic.calls K1 _ _ U _ _ N 1048576 s _ ?t1 ?t2 ?t3 ?t4 H1.out).mono ?_); (case t1 => exact Kd.C_below HR0.out HB1.out); (case t2 => exact HC0.out); (case t3 => exact Kd.C_below HR1.out HB1.out); (case t4 => exact HC1.out); rintro e w2 ⟨rfl, hb⟩; have HB2 := Aside0.mk (below_step HB1.out hb); have HX2 := Aside0.mk (blk_below HX1.out hb); clear hx0 hx1 hb; have hx0 : w2.cell? ⟨gb, 0, none⟩ = some (.slice A0 U.length c0) := (blk_cell HX2.out 0).trans rfl; have hx1 : w2.cell? ⟨gb, 1, none⟩ = some (.slice A1 N.length c1) := (blk_cell HX2.out 1).trans rfl))
    go_ret
    exact ⟨rfl, HB2.out⟩
  · have hs' : decide (s < 0) = false := decide_eq_false hs
    have HM := Aside0.mk (e2 (by omega))
    have hm_ : U.length ≤ 1048576 ∧ (∀ r ∈ U, r.length ≤ 1048576) ∧ N.length ≤ 1048576 := HM.out
    have HMM := Aside0.mk hm_
    clear hs e2 hf hm_
    obtain ⟨K2, h2⟩ := (toLogic_ev HM.out).rounds
    obtain ⟨V, hV⟩ : ∃ V, V = (if logicB U N = true then (if [a1].all (inR U.length) = true then filI U.length (fun b => upP U N a1 U.length b) else []) else []) := ⟨_, rfl⟩
    obtain ⟨K3, h3⟩ := (spec_UpToOf.ev U N a1).rounds
    have h4 : impl_UpToOf.f U N a1 = some ((if logicB U N = true then (if [a1].all (inR U.length) = true then filI U.length (fun b => upP U N a1 U.length b) else []) else [])) := rfl
    rw [← hV] at h3 h4
    have hvl : V.length ≤ 1048576 := by rw [hV]; refine Nat.le_trans ?_ (show U.length ≤ 1048576 from HMM.out.1); split; (split; exact filI_length _ _; simp); simp
    obtain ⟨K5, h5⟩ := (eqLogic_ev HM.out).rounds
    have H2 := Aside0.mk h2
    have H3 := Aside0.mk h3
    have H4 := Aside0.mk h4
    have H5 := Aside0.mk h5
    have HV := Aside0.mk hvl
    have HV2 := Aside0.mk (show V.length ≤ 1152921504606846976 by omega)
    obtain ⟨mk, hmk⟩ : ∃ mk : Int, 1 + (lenSum U : Int) + (N.length : Int) = mk := ⟨_, rfl⟩
    obtain ⟨mv, hmv⟩ : ∃ mv : Int, 1 + (V.length : Int) = mv := ⟨_, rfl⟩
    have hmk0 : decide (mk < 0) = false := decide_eq_false (by omega)
    have hmv0 : decide (mv < 0) = false := decide_eq_false (by omega)
    have HMK := Aside0.mk hmk
    have HMV := Aside0.mk hmv
    clear h2 h3 h4 h5 hvl hmk hmv hV
    have tok1 : True := trivial
    go_enter Try.func11, Try.ntmps11
    go_wp2_with (first | ((with_reducible refine gate_dst (N := 2) rfl ?_); refine box_event ?hg (N := 2) ?hd (cs := #[.slice A0 U.length c0, .slice A1 N.length c1]) (t := 26) ?hr ?_; (case hd => rfl); (case hg => rfl); (case hr => first | (go_simp; done) | (go_simp; rfl)); intro gb hg_ w1 hbox hb; have HB1 := Aside0.mk hb; have HX1 := Aside0.mk hbox; have hx0 : w1.cell? ⟨gb, 0, none⟩ = some (.slice A0 U.length c0) := (blk_cell hbox 0).trans rfl; have hx1 : w1.cell? ⟨gb, 1, none⟩ = some (.slice A1 N.length c1) := (blk_cell hbox 1).trans rfl; clear hbox hb hg_) | (go_at_call 17; (with_reducible refine (laws_szLogic.calls K1 _ _ U _ _ N 1048576 s _ ?t1 ?t2 ?t3 ?t4 H1.out).mono ?_); (case t1 => exact Kd.C_below HR0.out HB1.out); (case t2 => exact HC0.out); (case t3 => exact Kd.C_below HR1.out HB1.out); (case t4 => exact HC1.out); rintro e w2 ⟨rfl, hb⟩; have HB2 := Aside0.mk (below_step HB1.out hb); have HX2 := Aside0.mk (blk_below HX1.out hb); clear hx0 hx1 hb; have hx0 : w2.cell? ⟨gb, 0, none⟩ = some (.slice A0 U.length c0) := (blk_cell HX2.out 0).trans rfl; have hx1 : w2.cell? ⟨gb, 1, none⟩ = some (.slice A1 N.length c1) := (blk_cell HX2.out 1).trans rfl) | (have _t := tok1; go_at_call 19; (with_reducible refine (laws_toLogic.calls K2 _ _ U _ _ N U N _ ?t1 ?t2 ?t3 ?t4 H2.out).mono ?_); (case t1 => exact Kd.C_below HR0.out HB2.out); (case t2 => exact HC0.out); (case t3 => exact Kd.C_below HR1.out HB2.out); (case t4 => exact HC1.out); rintro e w3 ⟨v0, v1, rfl, hs, hr, hb⟩; obtain ⟨Ap, cp, rfl⟩ := Kd.S_slice hs; obtain ⟨Aq, cq, rfl⟩ := Kd.R_slice hr; have HB3 := Aside0.mk (below_step HB2.out hb); have HX3 := Aside0.mk (blk_below HX2.out hb); have HS3 := Aside0.mk hs; have HR3 := Aside0.mk hr; clear hs hr hb hx0 hx1 tok1 _t; have tok2 : True := trivial) | (go_at_call 34; (with_reducible refine (spec_UpToOf.calls K3 _ _ U _ _ N a1 _ _ ?t1 ?t2 ?t3 ?t4 H3.out).mono ?_); (case t1 => exact (Kd.S_reads' HS3.out).2.2); (case t2 => exact (Kd.S_reads' HS3.out).2.1); (case t3 => exact (Kd.R_reads' HR3.out).2.2); (case t4 => exact (Kd.R_reads' HR3.out).2.1); rintro e w4 ⟨vw, rfl, ho, hb⟩; obtain ⟨Aw, cw, rfl⟩ := Kd.R_slice ho; have HA4 := Aside0.mk (show MkA w w4 gb A0 c0 U A1 c1 N w4.heap.size Aw cw V from ⟨below_step HB3.out hb, blk_below HX3.out hb, blk_lt (blk_below HX3.out hb), Nat.le_refl _, below_size (below_step HB3.out hb), Kd.R_lower (Kd.R_mono (Kd.R_bound ho) (fun k hk => hk.2.2.1)) (below_size HB3.out)⟩); have hx0 := HA4.out.cell0; have hx1 := HA4.out.cell1; clear ho hb HS3 HR3) | (have _t := tok2; go_at_call 19; (with_reducible refine (laws_toLogic.calls K2 _ _ U _ _ N U N _ ?t1 ?t2 ?t3 ?t4 H2.out).mono ?_); (case t1 => exact Kd.C_below HR0.out HA4.out.hb); (case t2 => exact HC0.out); (case t3 => exact Kd.C_below HR1.out HA4.out.hb); (case t4 => exact HC1.out); rintro e w5 ⟨v0, v1, rfl, hs, hr, hb⟩; obtain ⟨A2, c2, rfl⟩ := Kd.S_slice hs; obtain ⟨A3, c3, rfl⟩ := Kd.R_slice hr; have HB5 := Aside0.mk hb; have HS5 := Aside0.mk hs; have HR5 := Aside0.mk hr; clear hs hr hb hx0 hx1 tok2 _t))
    have HA6 := Aside0.mk ((HA4.out.below HB5.out).below (below_alloc (Below.refl w5.heap.size w5) (.cells #[.slice A2 U.length c2, .slice A3 N.length c3] 29)))
    have HQ6 := Aside0.mk (MkB.of (t2 := .slice none 0 0) HA4.out rfl HB5.out HS5.out HR5.out)
    have hq0 := HQ6.out.cell0
    have hq1 := HQ6.out.cell1
    clear HB5 HS5 HR5
    go_wp2_with (first | (go_at_call 35; (with_reducible refine (impl_UpToOf.calls A2 c2 U A3 c3 N a1 _ _ ?t1 ?t2 ?t3 ?t4 H4.out).mono ?_); (case t1 => exact (Kd.S_reads' HQ6.out.rx0).2.2); (case t2 => exact (Kd.S_reads' HQ6.out.rx0).2.1); (case t3 => exact (Kd.R_reads' HQ6.out.rx1).2.2); (case t4 => exact (Kd.R_reads' HQ6.out.rx1).2.1); rintro e w7 ⟨vg, rfl, ho, hb⟩; obtain ⟨Ag, cg, rfl⟩ := Kd.R_slice ho; have HA7 := Aside0.mk (HA6.out.below hb); have HQ7 := Aside0.mk (HQ6.out.below hb); have HC7 := Aside0.mk (show MkC w w7 w5.heap.size Ag cg V.length V from ⟨HQ7.out.ew, Kd.R_lower (Kd.R_mono (Kd.R_bound ho) (fun k hk => Nat.le_trans HQ6.out.ew hk.2.1)) (below_size HA6.out.hb)⟩); clear ho hb HA6 HQ6 hq0 hq1) | (go_at_call 36; (with_reducible refine (eq_nums Ag Aw cg cw V _ HV.out ?t1 ?t2 ?t3 ?t4).mono ?_); (case t1 => exact (Kd.R_reads' HC7.out.rg).2.2); (case t2 => exact (Kd.R_reads' HC7.out.rg).2.1); (case t3 => exact (Kd.R_reads' HA7.out.rw0).2.2); (case t4 => exact (Kd.R_reads' HA7.out.rw0).2.1); rintro e w' ⟨rfl, ⟨⟨nd, rfl⟩⟩⟩; have HA8 := Aside0.mk (HA7.out.below (pw_below_drewN (Below.refl _ _) nd)); have HQ8 := Aside0.mk (HQ7.out.below (pw_below_drewN (Below.refl _ _) nd)); have HC8 := Aside0.mk (HC7.out.below (pw_below_drewN (Below.refl _ _) nd)); clear HA7 HQ7 HC7))
    refine start_ (n := 5) (S := (fun w' => w'.cell? ⟨w5.heap.size, 0, none⟩ = some (.slice A2 U.length c2) ∧ w'.cell? ⟨w5.heap.size, 1, none⟩ = some (.slice A3 N.length c3) ∧ w'.cell? ⟨gb, 0, none⟩ = some (.slice A0 U.length c0) ∧ w'.cell? ⟨gb, 1, none⟩ = some (.slice A1 N.length c1))) (ds := []) #[false, false, false, false, false] (by kernel_rfl) rfl rfl ⟨(HQ8.out.below (below_drew1 (Below.refl _ _))).cell0, (HQ8.out.below (below_drew1 (Below.refl _ _))).cell1, (HA8.out.below (below_drew1 (Below.refl _ _))).cell0, (HA8.out.below (below_drew1 (Below.refl _ _))).cell1⟩ (fun hHeld => ?_)
    refine with_tabW laws_FnExactUpToOf.tab10 laws_FnExactUpToOf.bits10 (fun HT_ HW_ => ?_)
    have HA9 := Aside0.mk (HA8.out.below (below_drew1 (Below.refl _ _)))
    have HQ9 := Aside0.mk (HQ8.out.below (below_drew1 (Below.refl _ _)))
    have HC9 := Aside0.mk (HC8.out.below (below_drew1 (Below.refl _ _)))
    clear HA8 HQ8 HC8
    generalize (World.drewN w7 nd).drew = w9 at HA9 HQ9 HC9 hHeld ⊢
    refine take_ (i := 0) (N := some 31) (v := ?_) (a' := ?_) #[true, false, false, false, false] rfl rfl (take_ofW HT_.out HW_.out (by kernel_rfl)) (fun _ _ _ h => h) (Or.inl ⟨by rfl, ?_⟩) hHeld ?_ ?_
    rotate_left
    · rintro w' ⟨s0, s1, s2, s3⟩; go_simp; with_reducible rfl
    rotate_left
    · simp only [Act.put, List.setIfInBounds_toArray, List.set_cons_zero, List.set_cons_succ, i64_w, i32_w]; rfl
    refine take_ (i := 1) (N := some 32) (v := ?_) (a' := ?_) #[true, true, false, false, false] rfl rfl (take_ofW HT_.out HW_.out (by kernel_rfl)) (fun _ _ _ h => h) (Or.inl ⟨by rfl, ?_⟩) hHeld ?_ ?_
    rotate_left
    · rintro w' ⟨s0, s1, s2, s3⟩; go_simp; with_reducible rfl
    rotate_left
    · simp only [Act.put, List.setIfInBounds_toArray, List.set_cons_zero, List.set_cons_succ, i64_w, i32_w]; rfl
    refine one_ (i := 2) (N := some 33) #[true, true, true, false, false] rfl rfl (one_of HT_.out (by kernel_rfl)) (by decide) (fun K hK => ?_)
    refine goes_ Try.func19 (by kernel_rfl) rfl #[.agg #[.slice A0 U.length c0, .slice A1 N.length c1]] (by rfl) rfl rfl (by (try simp only [List.map_toArray, List.map_cons, List.map_nil]); first | done | rfl) ?_
    refine (laws_toLogic.calls K2 _ _ U _ _ N U N _ (Kd.C_below HR0.out HA9.out.hb) HC0.out (Kd.C_below HR1.out HA9.out.hb) HC1.out H2.out).mono ?_
    rintro e w10 ⟨v0, v1, rfl, hs, hr, hb⟩
    obtain ⟨A4, c4, rfl⟩ := Kd.S_slice hs
    obtain ⟨A5, c5, rfl⟩ := Kd.R_slice hr
    refine ⟨_, rfl, ?_⟩
    have HA10 := Aside0.mk (HA9.out.below hb)
    have HQ10 := Aside0.mk (HQ9.out.below hb)
    have HC10 := Aside0.mk (HC9.out.below hb)
    have HS10 := Aside0.mk hs
    have HR10 := Aside0.mk hr
    refine hK.out _ _ ⟨HQ10.out.cell0, HQ10.out.cell1, HA10.out.cell0, HA10.out.cell1⟩ (fun hHeld10 => ?_)
    clear hK K hs hr hb HA9 HQ9 HC9
    (try simp only [Act.put, List.setIfInBounds_toArray, List.set_cons_zero, List.set_cons_succ])
    refine one_ (i := 3) (N := some 34) #[true, true, true, true, false] rfl rfl (one_of HT_.out (by kernel_rfl)) (by decide) (fun K hK => ?_)
    refine goes_ Try.func21 (by kernel_rfl) rfl #[.agg #[.slice A2 U.length c2, .slice A3 N.length c3], .agg #[.slice A4 U.length c4, .slice A5 N.length c5]] (by rfl) rfl rfl (by (try simp only [List.map_toArray, List.map_cons, List.map_nil]); first | done | rfl) ?_
    refine (laws_eqLogic.calls K5 _ _ U _ _ N _ _ U _ _ N true _ (Kd.S_reads' HQ10.out.rx0).2.2 (Kd.S_reads' HQ10.out.rx0).2.1 (Kd.R_reads' HQ10.out.rx1).2.2 (Kd.R_reads' HQ10.out.rx1).2.1 (Kd.S_reads' HS10.out).2.2 (Kd.S_reads' HS10.out).2.1 (Kd.R_reads' HR10.out).2.2 (Kd.R_reads' HR10.out).2.1 H5.out).mono ?_
    rintro e w11 ⟨rfl, hb⟩
    refine ⟨_, rfl, ?_⟩
    have HA11 := Aside0.mk (HA10.out.below hb)
    have HQ11 := Aside0.mk (HQ10.out.below hb)
    have HC11 := Aside0.mk (HC10.out.below hb)
    refine hK.out _ _ ⟨HQ11.out.cell0, HQ11.out.cell1, HA11.out.cell0, HA11.out.cell1⟩ (fun hHeld11 => ?_)
    clear hK K hb HA10 HQ10 HC10 HS10 HR10
    (try simp only [Act.put, List.setIfInBounds_toArray, List.set_cons_zero, List.set_cons_succ])
    refine pure_ (i := 4) (N := some 35) (v := ?_) (a' := ?_) #[true, true, true, true, true] rfl rfl (any_of HT_.out (by kernel_rfl)) (fun _ _ _ h => h) (Or.inl ⟨by rfl, ?_⟩) ?_ ?_
    rotate_left
    · intro w'; go_simp; with_reducible rfl
    rotate_left
    · simp only [Act.put, List.setIfInBounds_toArray, List.set_cons_zero, List.set_cons_succ, i64_w, i32_w]; rfl
    refine done_ (done_of HT_.out (by kernel_rfl)) ?_
    have hq0 := HQ11.out.cell0
    have hq1 := HQ11.out.cell1
    have HE := Aside0.mk HQ11.out.el
    go_wp2_with (first | (go_at_call 37; (with_reducible refine (markLogic_calls U N 1 (fun k => w4.heap.size ≤ k ∧ k < w5.heap.size ∧ some k ≠ (Value.slice A3 N.length c3).ownBlock) (fun k => some k = (Value.slice A3 N.length c3).ownBlock ∧ w4.heap.size ≤ k ∧ k < w5.heap.size) A2 c2 A3 c3 w _ ?t0 ?t1 ?t2 ?t3 (by omega) (by omega) HMM.out.1 HMM.out.2.1 HMM.out.2.2).mono ?_); (case t0 => exact HA11.out.hb); (case t1 => exact HQ11.out.rx0); (case t2 => exact HQ11.out.rx1); (case t3 => exact fun k h1 h2 => h2.2.2 h1.1); rintro e w12 ⟨he, hs, hr, hb, hk⟩; rw [HMK.out] at he; subst he; have HA12 := Aside0.mk (HA11.out.kept hb hk (fun k h => h.elim (fun h => h.1) (fun h => h.2.1))); have HC12 := Aside0.mk (HC11.out.kept hk (fun k h => h.elim (fun h => h.2.1) (fun h => h.2.2))); clear hs hr hb hk HA11 HC11 hq0 hq1; have tok3 : True := trivial) | (have _t := tok3; go_at_call 36; (with_reducible refine (eq_nums Ag Aw cg cw V _ HV.out ?t1 ?t2 ?t3 ?t4).mono ?_); (case t1 => exact (Kd.R_reads' HC12.out.rg).2.2); (case t2 => exact (Kd.R_reads' HC12.out.rg).2.1); (case t3 => exact (Kd.R_reads' HA12.out.rw0).2.2); (case t4 => exact (Kd.R_reads' HA12.out.rw0).2.1); rintro e w' ⟨rfl, ⟨⟨nd2, rfl⟩⟩⟩; have HA13 := Aside0.mk (HA12.out.below (pw_below_drewN (Below.refl _ _) nd2)); have HC13 := Aside0.mk (HC12.out.below (pw_below_drewN (Below.refl _ _) nd2)); clear HA12 HC12 tok3 _t) | (go_at_call 38; (with_reducible refine (mark_nums Ag cg w5.heap.size V _ HV2.out HA13.out.hb HC13.out).mono ?_); rintro e w14 ⟨he, hc, hb, hk⟩; rw [HMV.out] at he; subst he; have HA14 := Aside0.mk (HA13.out.kept hb hk (fun k h => Nat.le_trans HE.out h)); have HC14 := Aside0.mk hc; clear hc hb hk HA13 HC13; have tok4 : True := trivial) | (have _t := tok4; go_at_call 39; (with_reducible refine (held_nums Ag cg V.length _ HV2.out ?t1 ?t2).mono ?_); (case t1 => exact (Kd.R_reads' HC14.out.rg).2.2 |> fun h => by rwa [numL_length] at h); (case t2 => exact (Kd.R_reads' HC14.out.rg).2.1); rintro e w' ⟨he, ⟨⟨nd3, rfl⟩⟩⟩; rw [HMV.out] at he; subst he; have HA15 := Aside0.mk (HA14.out.below (pw_below_drewN (Below.refl _ _) nd3)); have HC15 := Aside0.mk (HC14.out.below (pw_below_drewN (Below.refl _ _) nd3)); have hy0 := HA15.out.cell0; have hy1 := HA15.out.cell1; clear HA14 HC14 tok4 _t) | (go_at_call 19; (with_reducible refine (laws_toLogic.calls K2 _ _ U _ _ N U N _ ?t1 ?t2 ?t3 ?t4 H2.out).mono ?_); (case t1 => exact Kd.C_below HR0.out HA15.out.hb); (case t2 => exact HC0.out); (case t3 => exact Kd.C_below HR1.out HA15.out.hb); (case t4 => exact HC1.out); rintro e w16 ⟨v0, v1, rfl, hs, hr, hb⟩; obtain ⟨A6, c6, rfl⟩ := Kd.S_slice hs; obtain ⟨A7, c7, rfl⟩ := Kd.R_slice hr; have HA16 := Aside0.mk (HA15.out.below hb); have HC16 := Aside0.mk (HC15.out.below hb); have HS16 := Aside0.mk hs; have HR16 := Aside0.mk hr; clear hs hr hb hy0 hy1 HA15 HC15) | (go_at_call 35; (with_reducible refine (impl_UpToOf.calls A6 c6 U A7 c7 N a1 _ _ ?t1 ?t2 ?t3 ?t4 H4.out).mono ?_); (case t1 => exact (Kd.S_reads' HS16.out).2.2); (case t2 => exact (Kd.S_reads' HS16.out).2.1); (case t3 => exact (Kd.R_reads' HR16.out).2.2); (case t4 => exact (Kd.R_reads' HR16.out).2.1); rintro e w17 ⟨vh, rfl, ho, hb⟩; obtain ⟨Ah, ch, rfl⟩ := Kd.R_slice ho; have HA17 := Aside0.mk (HA16.out.below hb); have HC17 := Aside0.mk (HC16.out.below hb); have HO17 := Aside0.mk ho; have HBZ := Aside0.mk HA17.out.hb; clear ho hb HA16 HC16 HS16 HR16; have tok5 : True := trivial) | (have _t := tok5; go_at_call 36; (with_reducible refine (eq_nums Ah Aw ch cw V _ HV.out ?t1 ?t2 ?t3 ?t4).mono ?_); (case t1 => exact (Kd.R_reads' HO17.out).2.2); (case t2 => exact (Kd.R_reads' HO17.out).2.1); (case t3 => exact (Kd.R_reads' HA17.out.rw0).2.2); (case t4 => exact (Kd.R_reads' HA17.out.rw0).2.1); rintro e w' ⟨rfl, ⟨⟨nd4, rfl⟩⟩⟩; have HA18 := Aside0.mk (HA17.out.below (pw_below_drewN (Below.refl _ _) nd4)); have HC18 := Aside0.mk (HC17.out.below (pw_below_drewN (Below.refl _ _) nd4)); clear HA17 HC17 HO17 tok5 _t; have tok6 : True := trivial) | (have _t := tok6; go_at_call 39; (with_reducible refine (held_nums Ag cg V.length _ HV2.out ?t1 ?t2).mono ?_); (case t1 => exact (Kd.R_reads' HC18.out.rg).2.2 |> fun h => by rwa [numL_length] at h); (case t2 => exact (Kd.R_reads' HC18.out.rg).2.1); rintro e w' ⟨he, ⟨⟨nd5, rfl⟩⟩⟩; rw [HMV.out] at he; subst he; have HA19 := Aside0.mk (HA18.out.below (pw_below_drewN (Below.refl _ _) nd5)); clear HA18 HC18 tok6 _t))
    go_ret
    exact ⟨rfl, by repeat (first | exact HBZ.out | apply pw_below_drewN | apply below_drew1)⟩
end Go.Proofs.Ytjoadckkdophnaa.Print
end
section
namespace Go.Proofs.Ytjoadckkdophnaa.Print
open Go.RowKit Go.Proofs.YtjoadckkdophnaaW.PrintWords Go.Proofs.YtjoadckkdophnaaW.PrintLast Go.Proofs.YtjoadckkdophnaaW.PrintMore
attribute [local go_sem] max2_int min2_int max_two min_two max_three min_three max_four min_four   -- for this text's walks alone
set_option linter.unusedVariables false
set_option linter.unusedSimpArgs false
def spec_NoOf.f (k : Nat) (l0_0 : List (List Int)) (l0_1 : List Int) : Option (Int) := (spec_LogicOk.f k l0_0 l0_1).bind fun t539 => (if t539 = true then ((spec_LeastOf.f k l0_0).bind fun bt540 => (some bt540.1)) else (some (-1)))
set_option maxHeartbeats 8000000 in
set_option maxRecDepth 100000 in
theorem spec_NoOf.calls (k : Nat) (A0_0 : Option Addr) (c0_0 : Nat) (l0_0 : List (List Int)) (A0_1 : Option Addr) (c0_1 : Nat) (l0_1 : List Int) (r : Int) (w : World) (hr0_0 : Kd.C (Kd.slice 3 (Kd.int .i64)) w A0_0 l0_0.length l0_0) (hc0_0 : l0_0.length ≤ c0_0) (hr0_1 : Kd.C (Kd.int .i64) w A0_1 l0_1.length l0_1) (hc0_1 : l0_1.length ≤ c0_1) (h : spec_NoOf.f k l0_0 l0_1 = some r) :
    Calls Try.prog 71 #[.agg #[.slice A0_0 l0_0.length c0_0, .slice A0_1 l0_1.length c0_1]] w fun e w' => e = .returned (.int .i64 r) ∧ Below w.heap.size w w' := by
  have hu29 := Try.underlying29
  have HR0_0 := Aside0.mk hr0_0
  have HC0_0 := Aside0.mk hc0_0
  clear hr0_0 hc0_0
  have HR0_1 := Aside0.mk hr0_1
  have HC0_1 := Aside0.mk hc0_1
  clear hr0_1 hc0_1
  have HB := Aside0.mk (Below.refl w.heap.size w)
  have H : ((spec_LogicOk.f k l0_0 l0_1).bind fun t539 => (if t539 = true then ((spec_LeastOf.f k l0_0).bind fun bt540 => (some bt540.1)) else (some (-1)))) = some r := h
  clear h
  replace H := Option.bind_eq_some_iff.mp H
  obtain ⟨t539, A20, H⟩ := H
  replace H : (if t539 = true then ((spec_LeastOf.f k l0_0).bind fun bt540 => (some bt540.1)) else (some (-1))) = some r := H
  have A2 := Aside0.mk A20
  clear A20
  by_cases c3 : t539 = true
  · subst c3
    have H1 : ((spec_LeastOf.f k l0_0).bind fun bt540 => (some bt540.1)) = some r := by rw [if_pos rfl] at H; exact H
    clear H
    have H := H1
    clear H1
    replace H := Option.bind_eq_some_iff.mp H
    obtain ⟨⟨t540, t541⟩, A40, H⟩ := H
    replace H : (some t540) = some r := H
    have A4 := Aside0.mk A40
    clear A40
    obtain rfl := Option.some.inj H
    go_enter Try.func71, Try.ntmps71
    go_wp2_with (first | ((with_reducible refine gate_dst (N := 1) rfl ?_); refine box_event ?hg (N := 1) ?hd (cs := #[.slice A0_0 l0_0.length c0_0, .slice A0_1 l0_1.length c0_1]) (t := 29) ?hr ?_; (case hd => rfl); (case hg => rfl); (case hr => first | (go_simp; done) | (go_simp; rfl)); intro gb538 hg w5 hbox hb; have n0_ := Aside0.mk (below_step (by repeat (first | (with_reducible first | exact HB.out | apply below_alloc | apply pw_below_drewN | apply below_drew1) | exact HB.out)) hb); have n1_ := Aside0.mk (hbox); have n2_ := Aside0.mk ((by rw [hg]; exact (below_size (by repeat (first | (with_reducible first | exact HB.out | apply below_alloc | apply pw_below_drewN | apply below_drew1) | exact HB.out))) : w.heap.size ≤ gb538)); have n3_ := Aside0.mk ((by rw [hg]; exact (below_size (by repeat (first | (with_reducible first | exact HB.out | apply below_alloc | apply pw_below_drewN | apply below_drew1) | exact HB.out))) : w.heap.size ≤ gb538)); clear HB; have HB := n0_; have BK538 := n1_; have GW538 := n2_; have GE538 := n3_; clear n0_ n1_ n2_ n3_; clear hb hbox hg; have hcz6_0 : w5.cell? ⟨gb538, 0, none⟩ = some (.slice A0_0 l0_0.length c0_0) := (blk_cell BK538.out 0).trans rfl; have hcz6_1 : w5.cell? ⟨gb538, 1, none⟩ = some (.slice A0_1 l0_1.length c0_1) := (blk_cell BK538.out 1).trans rfl; have hfz6_0 := blk_frozen BK538.out 0; have hfz6_1 := blk_frozen BK538.out 1) | ((with_reducible refine gate_callee (f := 59) rfl ?_); refine goesL_ (some 6) rfl rfl Try.func59 (by kernel_rfl) rfl #[.agg #[.slice A0_0 l0_0.length c0_0, .slice A0_1 l0_1.length c0_1]] rfl (by (try simp only [List.map_toArray, List.map_cons, List.map_nil]); first | done | rfl | (simp only [List.length_drop, List.length_take]; rfl)) ?_; (with_reducible refine (spec_LogicOk.calls k _ _ l0_0 _ _ l0_1 true _ ?side1 ?side2 ?side3 ?side4 A2.out).mono ?_); (case side1 => repeat (first | exact (Kd.C_below HR0_0.out HB.out) | (with_reducible refine Kd.C_alloc ?_ _) | (with_reducible refine Kd.C_drewN ?_ _) | (with_reducible refine Kd.C_drew ?_))); (case side2 => exact HC0_0.out); (case side3 => repeat (first | exact (Kd.C_below HR0_1.out HB.out) | (with_reducible refine Kd.C_alloc ?_ _) | (with_reducible refine Kd.C_drewN ?_ _) | (with_reducible refine Kd.C_drew ?_))); (case side4 => exact HC0_1.out); rintro e w7 ⟨rfl, hb⟩; refine ⟨_, rfl, ?_⟩; have n0_ := Aside0.mk (blk_below (g := gb538) (o := .cells #[.slice A0_0 l0_0.length c0_0, .slice A0_1 l0_1.length c0_1] 29 (0, 0)) (by (with_reducible repeat (first | refine blk_drewN ?_ _ | refine blk_drew ?_ | refine blk_alloc ?_ _)); exact BK538.out) hb); have n1_ := Aside0.mk (below_step (by repeat (first | (with_reducible first | exact HB.out | apply below_alloc | apply pw_below_drewN | apply below_drew1 | refine below_set ?_ GE538.out) | exact HB.out)) hb); clear BK538; clear HB; have BK538 := n0_; have HB := n1_; clear n0_ n1_; (try clear hb); (try clear hb2); (try clear hk); (try clear hi); have hcz8_0 : w7.cell? ⟨gb538, 0, none⟩ = some (.slice A0_0 l0_0.length c0_0) := (blk_cell BK538.out 0).trans rfl; have hcz8_1 : w7.cell? ⟨gb538, 1, none⟩ = some (.slice A0_1 l0_1.length c0_1) := (blk_cell BK538.out 1).trans rfl; have hfz8_0 := blk_frozen BK538.out 0; have hfz8_1 := blk_frozen BK538.out 1) | ((with_reducible refine gate_callee (f := 84) rfl ?_); refine goesL_ (some 11) rfl rfl Try.func84 (by kernel_rfl) rfl #[.slice A0_0 l0_0.length c0_0] rfl (by (try simp only [List.map_toArray, List.map_cons, List.map_nil]); first | done | rfl | (simp only [List.length_drop, List.length_take]; rfl)) ?_; (with_reducible refine (spec_LeastOf.calls k _ _ l0_0 t540 t541 _ ?side1 ?side2 A4.out).mono ?_); (case side1 => repeat (first | exact (Kd.C_below HR0_0.out HB.out) | (with_reducible refine Kd.C_alloc ?_ _) | (with_reducible refine Kd.C_drewN ?_ _) | (with_reducible refine Kd.C_drew ?_))); (case side2 => exact HC0_0.out); rintro e w' ⟨rfl, ⟨nd, rfl⟩⟩; refine ⟨_, rfl, ?_⟩))
    go_ret
    exact ⟨by first | rfl | (simp [errW_none, errW_some] <;> rfl) | (simp [*, errW_none, errW_some] <;> rfl), by repeat (first | (with_reducible first | exact HB.out | apply below_alloc | apply pw_below_drewN | apply below_drew1 | refine below_set ?_ GE538.out) | exact HB.out)⟩
  · replace c3 := Bool.eq_false_iff.mpr c3
    subst c3
    have H1 : (some (-1)) = some r := by rw [if_neg (show ¬ (false = true) by decide)] at H; exact H
    clear H
    have H := H1
    clear H1
    obtain rfl := Option.some.inj H
    go_enter Try.func71, Try.ntmps71
    go_wp2_with (first | ((with_reducible refine gate_dst (N := 1) rfl ?_); refine box_event ?hg (N := 1) ?hd (cs := #[.slice A0_0 l0_0.length c0_0, .slice A0_1 l0_1.length c0_1]) (t := 29) ?hr ?_; (case hd => rfl); (case hg => rfl); (case hr => first | (go_simp; done) | (go_simp; rfl)); intro gb538 hg w9 hbox hb; have n0_ := Aside0.mk (below_step (by repeat (first | (with_reducible first | exact HB.out | apply below_alloc | apply pw_below_drewN | apply below_drew1) | exact HB.out)) hb); have n1_ := Aside0.mk (hbox); have n2_ := Aside0.mk ((by rw [hg]; exact (below_size (by repeat (first | (with_reducible first | exact HB.out | apply below_alloc | apply pw_below_drewN | apply below_drew1) | exact HB.out))) : w.heap.size ≤ gb538)); have n3_ := Aside0.mk ((by rw [hg]; exact (below_size (by repeat (first | (with_reducible first | exact HB.out | apply below_alloc | apply pw_below_drewN | apply below_drew1) | exact HB.out))) : w.heap.size ≤ gb538)); clear HB; have HB := n0_; have BK538 := n1_; have GW538 := n2_; have GE538 := n3_; clear n0_ n1_ n2_ n3_; clear hb hbox hg; have hcz10_0 : w9.cell? ⟨gb538, 0, none⟩ = some (.slice A0_0 l0_0.length c0_0) := (blk_cell BK538.out 0).trans rfl; have hcz10_1 : w9.cell? ⟨gb538, 1, none⟩ = some (.slice A0_1 l0_1.length c0_1) := (blk_cell BK538.out 1).trans rfl; have hfz10_0 := blk_frozen BK538.out 0; have hfz10_1 := blk_frozen BK538.out 1) | ((with_reducible refine gate_callee (f := 59) rfl ?_); refine goesL_ (some 6) rfl rfl Try.func59 (by kernel_rfl) rfl #[.agg #[.slice A0_0 l0_0.length c0_0, .slice A0_1 l0_1.length c0_1]] rfl (by (try simp only [List.map_toArray, List.map_cons, List.map_nil]); first | done | rfl | (simp only [List.length_drop, List.length_take]; rfl)) ?_; (with_reducible refine (spec_LogicOk.calls k _ _ l0_0 _ _ l0_1 false _ ?side1 ?side2 ?side3 ?side4 A2.out).mono ?_); (case side1 => repeat (first | exact (Kd.C_below HR0_0.out HB.out) | (with_reducible refine Kd.C_alloc ?_ _) | (with_reducible refine Kd.C_drewN ?_ _) | (with_reducible refine Kd.C_drew ?_))); (case side2 => exact HC0_0.out); (case side3 => repeat (first | exact (Kd.C_below HR0_1.out HB.out) | (with_reducible refine Kd.C_alloc ?_ _) | (with_reducible refine Kd.C_drewN ?_ _) | (with_reducible refine Kd.C_drew ?_))); (case side4 => exact HC0_1.out); rintro e w11 ⟨rfl, hb⟩; refine ⟨_, rfl, ?_⟩; have n0_ := Aside0.mk (blk_below (g := gb538) (o := .cells #[.slice A0_0 l0_0.length c0_0, .slice A0_1 l0_1.length c0_1] 29 (0, 0)) (by (with_reducible repeat (first | refine blk_drewN ?_ _ | refine blk_drew ?_ | refine blk_alloc ?_ _)); exact BK538.out) hb); have n1_ := Aside0.mk (below_step (by repeat (first | (with_reducible first | exact HB.out | apply below_alloc | apply pw_below_drewN | apply below_drew1 | refine below_set ?_ GE538.out) | exact HB.out)) hb); clear BK538; clear HB; have BK538 := n0_; have HB := n1_; clear n0_ n1_; (try clear hb); (try clear hb2); (try clear hk); (try clear hi)))
    go_ret
    exact ⟨by first | rfl | (simp [errW_none, errW_some] <;> rfl) | (simp [*, errW_none, errW_some] <;> rfl), by repeat (first | (with_reducible first | exact HB.out | apply below_alloc | apply pw_below_drewN | apply below_drew1 | refine below_set ?_ GE538.out) | exact HB.out)⟩
end Go.Proofs.Ytjoadckkdophnaa.Print
end
section
namespace Go.Proofs.Ytjoadckkdophnaa.Print
open Go.RowKit Go.Proofs.YtjoadckkdophnaaW.PrintWords Go.Proofs.YtjoadckkdophnaaW.PrintLast Go.Proofs.YtjoadckkdophnaaW.PrintMore
set_option linter.unusedVariables false
set_option linter.unusedSimpArgs false
open Oml
theorem spec_NoOf.ev (U : List (List Int)) (N : List Int) : Ev (fun k => spec_NoOf.f k U N) (if logicB U N = true then noI U else -1) := by
  unfold spec_NoOf.f
  refine Ev.bind (spec_LogicOk.ev U N) ?_
  cases hl : logicB U N with
  | false => repeat (first | ((with_reducible refine Ev.ite_pos ?_ ?_); (first | assumption | (focus omega) | (focus (simp; done)))) | ((with_reducible refine Ev.ite_neg ?_ ?_); (first | assumption | (focus omega) | (focus (simp; done)))))
             exact Ev.now _
  | true =>
    have L := logicB_iff.1 hl
    have ho : orderB U = true := orderB_iff.2 L.toOrder
    repeat (first | ((with_reducible refine Ev.ite_pos ?_ ?_); (first | assumption | (focus omega) | (focus (simp; done)))) | ((with_reducible refine Ev.ite_neg ?_ ?_); (first | assumption | (focus omega) | (focus (simp; done)))))
    refine Ev.bind (spec_LeastOf.ev U) ?_
    rw [ho]
    exact Ev.now _
end Go.Proofs.Ytjoadckkdophnaa.Print
end
section
namespace Go.Proofs.Ytjoadckkdophnaa.Print
open Go.RowKit Go.Proofs.YtjoadckkdophnaaW.PrintWords Go.Proofs.YtjoadckkdophnaaW.PrintLast Go.Proofs.YtjoadckkdophnaaW.PrintMore
attribute [local go_sem] max2_int min2_int max_two min_two max_three min_three max_four min_four   -- for this text's walks alone
set_option linter.unusedVariables false
set_option linter.unusedSimpArgs false
mutual
def spec_ClearOf.l0 : Nat → Int → List Int → Int → List (List Int) → List Int → Option (List Int)
  | 0, _, _, _, _, _ => none
  | k + 1, x1, x5, x6, x543000, x543001 => if x6 < (x543001.length : Int) then ((spec_NotOf.f k x543000 x543001 x1).bind fun t546 => (spec_ClearOf.j1 k x1 x5 x6 (decide (t546 ≥ 0)) x543000 x543001)) else (spec_ClearOf.j1 k x1 x5 x6 false x543000 x543001)
def spec_ClearOf.j1 : Nat → Int → List Int → Int → Bool → List (List Int) → List Int → Option (List Int)
  | 0, _, _, _, _, _, _ => none
  | k + 1, x1, x5, x6, x18, x543000, x543001 => if x18 = true then ((spec_ProjectOf.f k x543000 x543001 x1 x6).bind fun t547 => ((spec_NoOf.f k x543000 x543001).bind fun t548 => (if t547 = t548 then (if x5.length < 17592186044416 then (spec_ClearOf.l0 k x1 (x5 ++ [x6]) (wrap64 (x6 + 1)) x543000 x543001) else (none)) else (spec_ClearOf.l0 k x1 x5 (wrap64 (x6 + 1)) x543000 x543001)))) else (some x5)
end
def spec_ClearOf.f (k : Nat) (l0_0 : List (List Int)) (l0_1 : List Int) (a1 : Int) : Option (List Int) := spec_ClearOf.l0 k a1 (([] : List Int)) 0 l0_0 l0_1
set_option maxHeartbeats 8000000 in
set_option maxRecDepth 100000 in
theorem spec_ClearOf.calls (k : Nat) (A0_0 : Option Addr) (c0_0 : Nat) (l0_0 : List (List Int)) (A0_1 : Option Addr) (c0_1 : Nat) (l0_1 : List Int) (a1 : Int) (r : List Int) (w : World) (hr0_0 : Kd.C (Kd.slice 3 (Kd.int .i64)) w A0_0 l0_0.length l0_0) (hc0_0 : l0_0.length ≤ c0_0) (hr0_1 : Kd.C (Kd.int .i64) w A0_1 l0_1.length l0_1) (hc0_1 : l0_1.length ≤ c0_1) (h : spec_ClearOf.f k l0_0 l0_1 a1 = some r) :
    Calls Try.prog 40 #[.agg #[.slice A0_0 l0_0.length c0_0, .slice A0_1 l0_1.length c0_1], .int .i64 a1] w fun e w' => ∃ v0_ : Value, e = .returned (v0_) ∧ Kd.R (Kd.int .i64) 3 w' w.heap.size (fun _ => True) v0_ r ∧ Below w.heap.size w w' := by
  have hu29 := Try.underlying29
  have HR0_0 := Aside0.mk hr0_0
  have HC0_0 := Aside0.mk hc0_0
  clear hr0_0 hc0_0
  have HR0_1 := Aside0.mk hr0_1
  have HC0_1 := Aside0.mk hc0_1
  clear hr0_1 hc0_1
  have HB := Aside0.mk (Below.refl w.heap.size w)
  have H : (spec_ClearOf.l0 k a1 (([] : List Int)) 0 l0_0 l0_1) = some r := h
  clear h
  obtain ⟨y543, hy543⟩ : ∃ y_ : List Int, y_ = (([] : List Int)) := ⟨_, rfl⟩
  replace H : (spec_ClearOf.l0 k a1 y543 0 l0_0 l0_1) = some r := by first | (rw [hy543]; with_reducible exact H) | (have H2_ := (Option.bind_some _ _).symm.trans H; rw [hy543]; with_reducible exact H2_) | (have H2_ := (Option.bind_some _ _).symm.trans H; with_reducible exact H2_) | with_reducible exact H | (rw [hy543]; exact H) | exact H
  have Ny543 := Aside0.mk hy543
  clear hy543
  have H' := Aside0.mk H
  clear H
  go_enter Try.func40, Try.ntmps40
  go_wp2_with (first | ((with_reducible refine gate_dst (N := 2) rfl ?_); refine box_event ?hg (N := 2) ?hd (cs := #[.slice A0_0 l0_0.length c0_0, .slice A0_1 l0_1.length c0_1]) (t := 29) ?hr ?_; (case hd => rfl); (case hg => rfl); (case hr => first | (go_simp; done) | (go_simp; rfl)); intro gb542 hg w3 hbox hb; have n0_ := Aside0.mk (below_step (by repeat (first | (with_reducible first | exact HB.out | apply below_alloc | apply pw_below_drewN | apply below_drew1) | exact HB.out)) hb); have n1_ := Aside0.mk (hbox); have n2_ := Aside0.mk ((by rw [hg]; exact (below_size (by repeat (first | (with_reducible first | exact HB.out | apply below_alloc | apply pw_below_drewN | apply below_drew1) | exact HB.out))) : w.heap.size ≤ gb542)); have n3_ := Aside0.mk ((by rw [hg]; exact (below_size (by repeat (first | (with_reducible first | exact HB.out | apply below_alloc | apply pw_below_drewN | apply below_drew1) | exact HB.out))) : w.heap.size ≤ gb542)); clear HB; have HB := n0_; have BK542 := n1_; have GW542 := n2_; have GE542 := n3_; clear n0_ n1_ n2_ n3_; clear hb hbox hg) | ((with_reducible refine gate_dst (N := 7) rfl ?_); refine Kd.R_lit (Kd.int .i64) _ 3 ?hg (N := 7) ?hd (xs := ([] : List Int)) (inner := []) (ok := fun _ => True) (okp := fun _ => True) ?hr ?hp (fun _ hk => hk) trivial (Below.refl _ _) (Nat.le_refl _) (by simp) ?_; (case hd => rfl); (case hg => rfl); (case hr => first | (go_simp; done) | (go_simp; rfl)); (case hp => exact (Reps.none _ _)); intro v544 w4 ho5 hb hg_ hnew_; clear hg_ hnew_; (first | rw [← Ny543.out] at ho5 | (simp only [Int.reduceToNat] at ho5; rw [← Ny543.out] at ho5)); have n0_ := Aside0.mk (Kd.R_lower ho5 (below_size (by repeat (first | (with_reducible first | exact HB.out | apply below_alloc | apply pw_below_drewN | apply below_drew1 | refine below_set ?_ GE542.out) | exact HB.out)))); have n1_ := Aside0.mk (blk_below (g := gb542) (o := .cells #[.slice A0_0 l0_0.length c0_0, .slice A0_1 l0_1.length c0_1] 29 (0, 0)) (by (with_reducible repeat (first | refine blk_drewN ?_ _ | refine blk_drew ?_ | refine blk_alloc ?_ _)); exact BK542.out) hb); have n2_ := Aside0.mk (below_step (by repeat (first | (with_reducible first | exact HB.out | apply below_alloc | apply pw_below_drewN | apply below_drew1 | refine below_set ?_ GE542.out) | exact HB.out)) hb); clear BK542; clear HB; have HO545 := n0_; have BK542 := n1_; have HB := n2_; clear n0_ n1_ n2_; clear hb ho5))
  go_loopg [5, 6] k (fun kq v5 v6 w' => ∃ (x5_1 : List Int) (x6_1 : Int), v6 = .int .i64 x6_1 ∧ Aside0 (spec_ClearOf.l0 kq a1 x5_1 x6_1 l0_0 l0_1 = some r) ∧ Aside0 (kq ≤ k) ∧ Aside0 (Kd.R (Kd.int .i64) 3 w' w.heap.size (fun _ => True) v5 x5_1) ∧ Aside0 (w'.heap[gb542]? = some (.cells #[(.slice A0_0 l0_0.length c0_0), (.slice A0_1 l0_1.length c0_1)] 29 (0, 0))) ∧ Aside0 (Below w.heap.size w w'))
  case atStart => exact ⟨(y543), (0), (by first | rfl | (simp; done) | (simp [*]; done)), H', ⟨Nat.le_refl _⟩, ⟨by (with_reducible repeat (first | apply Kd.R_alloc | apply Kd.R_drewN | apply Kd.R_drew)); exact HO545.out⟩, ⟨by (with_reducible repeat (first | refine blk_drewN ?_ _ | refine blk_drew ?_ | refine blk_alloc ?_ _)); exact BK542.out⟩, ⟨by repeat (first | (with_reducible first | exact HB.out | apply below_alloc | apply pw_below_drewN | apply below_drew1 | refine below_set ?_ GE542.out) | exact HB.out)⟩⟩
  case round =>
    clear H'
    try clear p2
    try clear c4
    obtain ⟨x5_1, x6_1, rfl, HA, HK1, HO_5, BK542, HB⟩ := hrel
    cases gk with
    | zero => exact absurd HA.out (by simp [spec_ClearOf.l0])
    | succ k1 =>
      have H := HA.out
      clear HA
      simp only [spec_ClearOf.l0] at H
      have HC6 := Aside0.mk H
      clear H
      go_upto_region 3 with (fail)
      go_cut [18] (fun v18 wc => ∃ (kq : Nat) (x18_5 : Bool), v18 = .bool x18_5 ∧ Aside0 (spec_ClearOf.j1 kq a1 x5_1 x6_1 x18_5 l0_0 l0_1 = some r) ∧ Aside0 (kq ≤ k1) ∧ Aside0 (Kd.R (Kd.int .i64) 3 wc w.heap.size (fun _ => True) u5 x5_1) ∧ Aside0 (wc.heap[gb542]? = some (.cells #[(.slice A0_0 l0_0.length c0_0), (.slice A0_1 l0_1.length c0_1)] 29 (0, 0))) ∧ Aside0 (Below w.heap.size w wc))
      case first =>
        have H := HC6.out
        clear HC6
        by_cases c7 : x6_1 < (l0_1.length : Int)
        · rw [if_pos c7] at H
          have c7b0 : decide (x6_1 < (l0_1.length : Int)) = true := decide_eq_true c7
          clear c7
          (first | rw [c7b0] | (simp only [i64_w, i32_w]; rw [c7b0]) | skip)
          replace H := Option.bind_eq_some_iff.mp H
          obtain ⟨t546, A80, H⟩ := H
          replace H : (spec_ClearOf.j1 k1 a1 x5_1 x6_1 (decide (t546 ≥ 0)) l0_0 l0_1) = some r := H
          have A8 := Aside0.mk A80
          clear A80
          have H' := Aside0.mk H
          clear H
          have hcz9_0 : wr.cell? ⟨gb542, 0, none⟩ = some (.slice A0_0 l0_0.length c0_0) := (blk_cell BK542.out 0).trans rfl
          have hcz9_1 : wr.cell? ⟨gb542, 1, none⟩ = some (.slice A0_1 l0_1.length c0_1) := (blk_cell BK542.out 1).trans rfl
          have hfz9_0 := blk_frozen BK542.out 0
          have hfz9_1 := blk_frozen BK542.out 1
          go_wp2_with (first | (go_at_call 64; (with_reducible refine (spec_NotOf.calls k1 _ _ l0_0 _ _ l0_1 a1 t546 _ ?side1 ?side2 ?side3 ?side4 A8.out).mono ?_); (case side1 => repeat (first | exact (Kd.C_below HR0_0.out HB.out) | (with_reducible refine Kd.C_alloc ?_ _) | (with_reducible refine Kd.C_drewN ?_ _) | (with_reducible refine Kd.C_drew ?_))); (case side2 => exact HC0_0.out); (case side3 => repeat (first | exact (Kd.C_below HR0_1.out HB.out) | (with_reducible refine Kd.C_alloc ?_ _) | (with_reducible refine Kd.C_drewN ?_ _) | (with_reducible refine Kd.C_drew ?_))); (case side4 => exact HC0_1.out); rintro e w10 ⟨rfl, hb⟩; have n0_ := Aside0.mk (Kd.R_below (by (with_reducible repeat (first | apply Kd.R_alloc | apply Kd.R_drewN | apply Kd.R_drew)); exact HO_5.out) hb); have n1_ := Aside0.mk (blk_below (g := gb542) (o := .cells #[.slice A0_0 l0_0.length c0_0, .slice A0_1 l0_1.length c0_1] 29 (0, 0)) (by (with_reducible repeat (first | refine blk_drewN ?_ _ | refine blk_drew ?_ | refine blk_alloc ?_ _)); exact BK542.out) hb); have n2_ := Aside0.mk (below_step (by repeat (first | (with_reducible first | exact HB.out | apply below_alloc | apply pw_below_drewN | apply below_drew1 | refine below_set ?_ GE542.out) | exact HB.out)) hb); clear HO_5; clear BK542; clear HB; have HO_5 := n0_; have BK542 := n1_; have HB := n2_; clear n0_ n1_ n2_; (try clear hb); (try clear hb2); (try clear hk); (try clear hi)))
          go_meet
          case rel => exact ⟨_, (decide (t546 ≥ 0)), (by first | rfl | (simp; done) | (simp [*]; done)), H', ⟨by have := HK1.out; first | omega | exact Nat.le_refl _⟩, ⟨by (with_reducible repeat (first | apply Kd.R_alloc | apply Kd.R_drewN | apply Kd.R_drew)); exact HO_5.out⟩, ⟨by (with_reducible repeat (first | refine blk_drewN ?_ _ | refine blk_drew ?_ | refine blk_alloc ?_ _)); exact BK542.out⟩, ⟨by repeat (first | (with_reducible first | exact HB.out | apply below_alloc | apply pw_below_drewN | apply below_drew1 | refine below_set ?_ GE542.out) | exact HB.out)⟩⟩
        · rw [if_neg c7] at H
          have c7b0 : decide (x6_1 < (l0_1.length : Int)) = false := decide_eq_false c7
          clear c7
          (first | rw [c7b0] | (simp only [i64_w, i32_w]; rw [c7b0]) | skip)
          have H' := Aside0.mk H
          clear H
          have hcz11_0 : wr.cell? ⟨gb542, 0, none⟩ = some (.slice A0_0 l0_0.length c0_0) := (blk_cell BK542.out 0).trans rfl
          have hcz11_1 : wr.cell? ⟨gb542, 1, none⟩ = some (.slice A0_1 l0_1.length c0_1) := (blk_cell BK542.out 1).trans rfl
          have hfz11_0 := blk_frozen BK542.out 0
          have hfz11_1 := blk_frozen BK542.out 1
          go_wp2
          go_meet
          case rel => exact ⟨_, (false), (by first | rfl | (simp; done) | (simp [*]; done)), H', ⟨by have := HK1.out; first | omega | exact Nat.le_refl _⟩, ⟨by (with_reducible repeat (first | apply Kd.R_alloc | apply Kd.R_drewN | apply Kd.R_drew)); exact HO_5.out⟩, ⟨by (with_reducible repeat (first | refine blk_drewN ?_ _ | refine blk_drew ?_ | refine blk_alloc ?_ _)); exact BK542.out⟩, ⟨by repeat (first | (with_reducible first | exact HB.out | apply below_alloc | apply pw_below_drewN | apply below_drew1 | refine below_set ?_ GE542.out) | exact HB.out)⟩⟩
      case rest =>
        clear HC6
        try clear p2
        try clear c4
        try clear c7
        try clear c7b0
        try clear hcz11_0
        try clear hcz11_1
        try clear hcz9_0
        try clear hcz9_1
        try clear hfz11_0
        try clear hfz11_1
        try clear hfz9_0
        try clear hfz9_1
        try clear p2
        obtain ⟨kq, x18_5, rfl, HA, HJ5, HO_5, BK542, HB⟩ := hcut
        cases kq with
        | zero => exact absurd HA.out (by simp [spec_ClearOf.j1])
        | succ kj5 =>
          have H := HA.out
          clear HA
          simp only [spec_ClearOf.j1] at H
          by_cases c12 : x18_5 = true
          · subst c12
            have H1 : ((spec_ProjectOf.f kj5 l0_0 l0_1 a1 x6_1).bind fun t547 => ((spec_NoOf.f kj5 l0_0 l0_1).bind fun t548 => (if t547 = t548 then (if x5_1.length < 17592186044416 then (spec_ClearOf.l0 kj5 a1 (x5_1 ++ [x6_1]) (wrap64 (x6_1 + 1)) l0_0 l0_1) else (none)) else (spec_ClearOf.l0 kj5 a1 x5_1 (wrap64 (x6_1 + 1)) l0_0 l0_1)))) = some r := by rw [if_pos rfl] at H; exact H
            clear H
            have H := H1
            clear H1
            replace H := Option.bind_eq_some_iff.mp H
            obtain ⟨t547, A130, H⟩ := H
            replace H : ((spec_NoOf.f kj5 l0_0 l0_1).bind fun t548 => (if t547 = t548 then (if x5_1.length < 17592186044416 then (spec_ClearOf.l0 kj5 a1 (x5_1 ++ [x6_1]) (wrap64 (x6_1 + 1)) l0_0 l0_1) else (none)) else (spec_ClearOf.l0 kj5 a1 x5_1 (wrap64 (x6_1 + 1)) l0_0 l0_1))) = some r := H
            have A13 := Aside0.mk A130
            clear A130
            replace H := Option.bind_eq_some_iff.mp H
            obtain ⟨t548, A140, H⟩ := H
            replace H : (if t547 = t548 then (if x5_1.length < 17592186044416 then (spec_ClearOf.l0 kj5 a1 (x5_1 ++ [x6_1]) (wrap64 (x6_1 + 1)) l0_0 l0_1) else (none)) else (spec_ClearOf.l0 kj5 a1 x5_1 (wrap64 (x6_1 + 1)) l0_0 l0_1)) = some r := H
            have A14 := Aside0.mk A140
            clear A140
            by_cases c15 : t547 = t548
            · rw [if_pos c15] at H
              have c15b0 : (t547 == t548) = true := beq_iff_eq.mpr c15
              have c15b1 : (t547 != t548) = false := bne_eq_false_iff_eq.mpr c15
              clear c15
              by_cases c16 : x5_1.length < 17592186044416
              · rw [if_pos c16] at H
                have LMc16 := Aside0.mk c16
                clear c16
                obtain ⟨y549, hy549⟩ : ∃ y_ : List Int, y_ = (x5_1 ++ [x6_1]) := ⟨_, rfl⟩
                replace H : (spec_ClearOf.l0 kj5 a1 y549 (wrap64 (x6_1 + 1)) l0_0 l0_1) = some r := by first | (rw [hy549]; with_reducible exact H) | (have H2_ := (Option.bind_some _ _).symm.trans H; rw [hy549]; with_reducible exact H2_) | (have H2_ := (Option.bind_some _ _).symm.trans H; with_reducible exact H2_) | with_reducible exact H | (rw [hy549]; exact H) | exact H
                have Ny549 := Aside0.mk hy549
                clear hy549
                have H' := Aside0.mk H
                clear H
                try go_wp2
                have n0_ := Aside0.mk (Kd.R_drew HO_5.out)
                have n1_ := Aside0.mk (blk_drew BK542.out)
                have n2_ := Aside0.mk (below_drew1 HB.out)
                clear HO_5
                clear BK542
                clear HB
                have HO_5 := n0_
                have BK542 := n1_
                have HB := n2_
                clear n0_ n1_ n2_
                refine start_ (n := 7) (S := fun w' => w'.cell? ⟨gb542, 0, none⟩ = some (.slice A0_0 l0_0.length c0_0) ∧ w'.cell? ⟨gb542, 1, none⟩ = some (.slice A0_1 l0_1.length c0_1)) (ds := []) #[false, false, false, false, false, false, false] (by kernel_rfl) rfl rfl ⟨(blk_cell BK542.out 0).trans rfl, (blk_cell BK542.out 1).trans rfl⟩ (fun hHeld => ?_)
                generalize wc.drew = w17 at HO_5 BK542 HB hHeld ⊢
                refine pure_ (i := 1) (N := some 22) (v := ?_) (a' := ?_) #[false, true, false, false, false, false, false] rfl rfl (by kernel_rfl) (fun _ _ _ h => h) (Or.inl ⟨by rfl, ?_⟩) ?_ ?_
                rotate_left
                · intro w'
                  go_simp
                  with_reducible rfl
                rotate_left
                · simp only [Act.put, List.setIfInBounds_toArray, List.set_cons_zero, List.set_cons_succ, i64_w, i32_w]
                  rfl
                refine pure_ (i := 2) (N := some 23) (v := ?_) (a' := ?_) #[false, true, true, false, false, false, false] rfl rfl (by kernel_rfl) (fun _ _ _ h => h) (Or.inl ⟨by rfl, ?_⟩) ?_ ?_
                rotate_left
                · intro w'
                  go_simp
                  with_reducible rfl
                rotate_left
                · simp only [Act.put, List.setIfInBounds_toArray, List.set_cons_zero, List.set_cons_succ, i64_w, i32_w]
                  rfl
                refine take_ (i := 0) (N := some 21) (v := ?_) (a' := ?_) #[true, true, true, false, false, false, false] rfl rfl (by kernel_rfl) (fun _ _ _ h => h) (Or.inl ⟨by rfl, ?_⟩) hHeld ?_ ?_
                rotate_left
                · rintro w' ⟨s0, s1⟩
                  go_simp
                  with_reducible rfl
                rotate_left
                · simp only [Act.put, List.setIfInBounds_toArray, List.set_cons_zero, List.set_cons_succ, i64_w, i32_w]
                  rfl
                refine take_ (i := 4) (N := some 25) (v := ?_) (a' := ?_) #[true, true, true, false, true, false, false] rfl rfl (by kernel_rfl) (fun _ _ _ h => h) (Or.inl ⟨by rfl, ?_⟩) hHeld ?_ ?_
                rotate_left
                · rintro w' ⟨s0, s1⟩
                  go_simp
                  with_reducible rfl
                rotate_left
                · simp only [Act.put, List.setIfInBounds_toArray, List.set_cons_zero, List.set_cons_succ, i64_w, i32_w]
                  rfl
                refine one_ (i := 3) (N := some 24) #[true, true, true, true, true, false, false] rfl rfl (by kernel_rfl) (by decide) (fun K hK => ?_)
                refine goes_ Try.func22 (by kernel_rfl) rfl #[.agg #[.slice A0_0 l0_0.length c0_0, .slice A0_1 l0_1.length c0_1], .int .i64 a1, .int .i64 x6_1] (by rfl) rfl rfl (by (try simp only [List.map_toArray, List.map_cons, List.map_nil]); first | done | rfl | (simp only [List.length_drop, List.length_take]; rfl)) ?_
                with_reducible refine (spec_ProjectOf.calls kj5 _ _ l0_0 _ _ l0_1 a1 x6_1 t547 _ ?side1 ?side2 ?side3 ?side4 A13.out).mono ?_
                (case side1 => repeat (first | exact (Kd.C_below HR0_0.out HB.out) | (with_reducible refine Kd.C_alloc ?_ _) | (with_reducible refine Kd.C_drewN ?_ _) | (with_reducible refine Kd.C_drew ?_)))
                (case side2 => exact HC0_0.out)
                (case side3 => repeat (first | exact (Kd.C_below HR0_1.out HB.out) | (with_reducible refine Kd.C_alloc ?_ _) | (with_reducible refine Kd.C_drewN ?_ _) | (with_reducible refine Kd.C_drew ?_)))
                (case side4 => exact HC0_1.out)
                rintro e w18 ⟨rfl, hb⟩
                refine ⟨_, rfl, ?_⟩
                have n0_ := Aside0.mk (Kd.R_below (by (with_reducible repeat (first | apply Kd.R_alloc | apply Kd.R_drewN | apply Kd.R_drew)); exact HO_5.out) hb)
                have n1_ := Aside0.mk (blk_below (g := gb542) (o := .cells #[.slice A0_0 l0_0.length c0_0, .slice A0_1 l0_1.length c0_1] 29 (0, 0)) (by (with_reducible repeat (first | refine blk_drewN ?_ _ | refine blk_drew ?_ | refine blk_alloc ?_ _)); exact BK542.out) hb)
                have n2_ := Aside0.mk (below_step (by repeat (first | (with_reducible first | exact HB.out | apply below_alloc | apply pw_below_drewN | apply below_drew1 | refine below_set ?_ GE542.out) | exact HB.out)) hb)
                clear HO_5
                clear BK542
                clear HB
                have HO_5 := n0_
                have BK542 := n1_
                have HB := n2_
                clear n0_ n1_ n2_
                (try clear hb)
                (try clear hb2)
                (try clear hk)
                (try clear hi)
                refine hK.out _ _ ⟨(blk_cell BK542.out 0).trans rfl, (blk_cell BK542.out 1).trans rfl⟩ (fun hHeld => ?_)
                clear hK K
                refine norm_ (a' := ?_) ?_ ?_
                rotate_left
                · show Act.put _ (some 24) _ = _
                  simp only [Act.put, List.setIfInBounds_toArray, List.set_cons_zero, List.set_cons_succ, i64_w, i32_w]
                  rfl
                refine one_ (i := 5) (N := some 26) #[true, true, true, true, true, true, false] rfl rfl (by kernel_rfl) (by decide) (fun K hK => ?_)
                refine goes_ Try.func71 (by kernel_rfl) rfl #[.agg #[.slice A0_0 l0_0.length c0_0, .slice A0_1 l0_1.length c0_1]] (by rfl) rfl rfl (by (try simp only [List.map_toArray, List.map_cons, List.map_nil]); first | done | rfl | (simp only [List.length_drop, List.length_take]; rfl)) ?_
                with_reducible refine (spec_NoOf.calls kj5 _ _ l0_0 _ _ l0_1 t548 _ ?side1 ?side2 ?side3 ?side4 A14.out).mono ?_
                (case side1 => repeat (first | exact (Kd.C_below HR0_0.out HB.out) | (with_reducible refine Kd.C_alloc ?_ _) | (with_reducible refine Kd.C_drewN ?_ _) | (with_reducible refine Kd.C_drew ?_)))
                (case side2 => exact HC0_0.out)
                (case side3 => repeat (first | exact (Kd.C_below HR0_1.out HB.out) | (with_reducible refine Kd.C_alloc ?_ _) | (with_reducible refine Kd.C_drewN ?_ _) | (with_reducible refine Kd.C_drew ?_)))
                (case side4 => exact HC0_1.out)
                rintro e w19 ⟨rfl, hb⟩
                refine ⟨_, rfl, ?_⟩
                have n0_ := Aside0.mk (Kd.R_below (by (with_reducible repeat (first | apply Kd.R_alloc | apply Kd.R_drewN | apply Kd.R_drew)); exact HO_5.out) hb)
                have n1_ := Aside0.mk (blk_below (g := gb542) (o := .cells #[.slice A0_0 l0_0.length c0_0, .slice A0_1 l0_1.length c0_1] 29 (0, 0)) (by (with_reducible repeat (first | refine blk_drewN ?_ _ | refine blk_drew ?_ | refine blk_alloc ?_ _)); exact BK542.out) hb)
                have n2_ := Aside0.mk (below_step (by repeat (first | (with_reducible first | exact HB.out | apply below_alloc | apply pw_below_drewN | apply below_drew1 | refine below_set ?_ GE542.out) | exact HB.out)) hb)
                clear HO_5
                clear BK542
                clear HB
                have HO_5 := n0_
                have BK542 := n1_
                have HB := n2_
                clear n0_ n1_ n2_
                (try clear hb)
                (try clear hb2)
                (try clear hk)
                (try clear hi)
                refine hK.out _ _ ⟨(blk_cell BK542.out 0).trans rfl, (blk_cell BK542.out 1).trans rfl⟩ (fun hHeld => ?_)
                clear hK K
                refine norm_ (a' := ?_) ?_ ?_
                rotate_left
                · show Act.put _ (some 26) _ = _
                  simp only [Act.put, List.setIfInBounds_toArray, List.set_cons_zero, List.set_cons_succ, i64_w, i32_w]
                  rfl
                refine pure_ (i := 6) (N := some 27) (v := ?_) (a' := ?_) #[true, true, true, true, true, true, true] rfl rfl (by kernel_rfl) (fun _ _ _ h => h) (Or.inl ⟨by rfl, ?_⟩) ?_ ?_
                rotate_left
                · intro w'
                  go_simp
                  with_reducible rfl
                rotate_left
                · simp only [Act.put, List.setIfInBounds_toArray, List.set_cons_zero, List.set_cons_succ, i64_w, i32_w]
                  rfl
                refine done_ (by kernel_rfl) ?_
                try go_wp2_with (first | ((with_reducible refine gate_builtin (b := .append) (xs := #[.tmp 28, .tmp 30]) rfl ?_); at_builtin; refine Kd.R_append (Kd.int .i64) (w0 := w) w.heap.size rfl (.tmp 28) (.tmp 30) 24 3 (.int .i64 0) 8 rfl Try.underlying24 info3 rfl (by decide) (by omega) u5 x5_1 x6_1 [.int .i64 x6_1] (fun _ => True) (fun _ => False) rfl rfl ?aP (fun _ hk => hk.elim) ?aF ?aO ?aB ?aS ?aL ?_; (case aP => exact rfl); (case aB => exact (by repeat (first | (with_reducible first | exact HB.out | apply below_alloc | apply pw_below_drewN | apply below_drew1 | refine below_set ?_ GE542.out) | exact HB.out))); (case aF => exact (fun _ _ => trivial)); (case aO => exact (by (with_reducible repeat (first | apply Kd.R_alloc | apply Kd.R_drewN | apply Kd.R_drew)); exact HO_5.out)); (case aS => exact (below_size (by repeat (first | (with_reducible first | exact HB.out | apply below_alloc | apply pw_below_drewN | apply below_drew1 | refine below_set ?_ GE542.out) | exact HB.out)))); (case aL => have := LMc16.out; omega); intro v550 w20 ho hb hg hat; rw [← Ny549.out] at ho; have n0_ := Aside0.mk (blk_grown (g := gb542) (o := .cells #[.slice A0_0 l0_0.length c0_0, .slice A0_1 l0_1.length c0_1] 29 (0, 0)) (by (with_reducible repeat (first | refine blk_drewN ?_ _ | refine blk_drew ?_ | refine blk_alloc ?_ _)); exact BK542.out) hg (Kd.R_ne HO_5.out BK542.out (by decide))); have n1_ := Aside0.mk (hb); have n2_ := Aside0.mk (ho); clear BK542; clear HB; clear HO_5; have BK542 := n0_; have HB := n1_; have HO551 := n2_; clear n0_ n1_ n2_; clear ho hb hg hat))
                go_roundg kj5
                case measure => have := HK1.out; have := HJ5.out; omega
                case rel => exact ⟨(y549), (wrap64 (x6_1 + 1)), (by first | rfl | (simp; done) | (simp [*]; done)), H', ⟨by have := HK1.out; have := HJ5.out; omega⟩, ⟨by (with_reducible repeat (first | apply Kd.R_alloc | apply Kd.R_drewN | apply Kd.R_drew)); exact HO551.out⟩, ⟨by (with_reducible repeat (first | refine blk_drewN ?_ _ | refine blk_drew ?_ | refine blk_alloc ?_ _)); exact BK542.out⟩, ⟨by repeat (first | (with_reducible first | exact HB.out | apply below_alloc | apply pw_below_drewN | apply below_drew1 | refine below_set ?_ GE542.out) | exact HB.out)⟩⟩
              · rw [if_neg c16] at H
                exact absurd H (by simp)
            · rw [if_neg c15] at H
              have c15b0 : (t547 == t548) = false := beq_eq_false_iff_ne.mpr c15
              have c15b1 : (t547 != t548) = true := bne_iff_ne.mpr c15
              have H' := Aside0.mk H
              clear H
              try go_wp2
              have n0_ := Aside0.mk (Kd.R_drew HO_5.out)
              have n1_ := Aside0.mk (blk_drew BK542.out)
              have n2_ := Aside0.mk (below_drew1 HB.out)
              clear HO_5
              clear BK542
              clear HB
              have HO_5 := n0_
              have BK542 := n1_
              have HB := n2_
              clear n0_ n1_ n2_
              refine start_ (n := 7) (S := fun w' => w'.cell? ⟨gb542, 0, none⟩ = some (.slice A0_0 l0_0.length c0_0) ∧ w'.cell? ⟨gb542, 1, none⟩ = some (.slice A0_1 l0_1.length c0_1)) (ds := []) #[false, false, false, false, false, false, false] (by kernel_rfl) rfl rfl ⟨(blk_cell BK542.out 0).trans rfl, (blk_cell BK542.out 1).trans rfl⟩ (fun hHeld => ?_)
              generalize wc.drew = w21 at HO_5 BK542 HB hHeld ⊢
              refine pure_ (i := 1) (N := some 22) (v := ?_) (a' := ?_) #[false, true, false, false, false, false, false] rfl rfl (by kernel_rfl) (fun _ _ _ h => h) (Or.inl ⟨by rfl, ?_⟩) ?_ ?_
              rotate_left
              · intro w'
                go_simp
                with_reducible rfl
              rotate_left
              · simp only [Act.put, List.setIfInBounds_toArray, List.set_cons_zero, List.set_cons_succ, i64_w, i32_w]
                rfl
              refine pure_ (i := 2) (N := some 23) (v := ?_) (a' := ?_) #[false, true, true, false, false, false, false] rfl rfl (by kernel_rfl) (fun _ _ _ h => h) (Or.inl ⟨by rfl, ?_⟩) ?_ ?_
              rotate_left
              · intro w'
                go_simp
                with_reducible rfl
              rotate_left
              · simp only [Act.put, List.setIfInBounds_toArray, List.set_cons_zero, List.set_cons_succ, i64_w, i32_w]
                rfl
              refine take_ (i := 0) (N := some 21) (v := ?_) (a' := ?_) #[true, true, true, false, false, false, false] rfl rfl (by kernel_rfl) (fun _ _ _ h => h) (Or.inl ⟨by rfl, ?_⟩) hHeld ?_ ?_
              rotate_left
              · rintro w' ⟨s0, s1⟩
                go_simp
                with_reducible rfl
              rotate_left
              · simp only [Act.put, List.setIfInBounds_toArray, List.set_cons_zero, List.set_cons_succ, i64_w, i32_w]
                rfl
              refine take_ (i := 4) (N := some 25) (v := ?_) (a' := ?_) #[true, true, true, false, true, false, false] rfl rfl (by kernel_rfl) (fun _ _ _ h => h) (Or.inl ⟨by rfl, ?_⟩) hHeld ?_ ?_
              rotate_left
              · rintro w' ⟨s0, s1⟩
                go_simp
                with_reducible rfl
              rotate_left
              · simp only [Act.put, List.setIfInBounds_toArray, List.set_cons_zero, List.set_cons_succ, i64_w, i32_w]
                rfl
              refine one_ (i := 3) (N := some 24) #[true, true, true, true, true, false, false] rfl rfl (by kernel_rfl) (by decide) (fun K hK => ?_)
              refine goes_ Try.func22 (by kernel_rfl) rfl #[.agg #[.slice A0_0 l0_0.length c0_0, .slice A0_1 l0_1.length c0_1], .int .i64 a1, .int .i64 x6_1] (by rfl) rfl rfl (by (try simp only [List.map_toArray, List.map_cons, List.map_nil]); first | done | rfl | (simp only [List.length_drop, List.length_take]; rfl)) ?_
              with_reducible refine (spec_ProjectOf.calls kj5 _ _ l0_0 _ _ l0_1 a1 x6_1 t547 _ ?side1 ?side2 ?side3 ?side4 A13.out).mono ?_
              (case side1 => repeat (first | exact (Kd.C_below HR0_0.out HB.out) | (with_reducible refine Kd.C_alloc ?_ _) | (with_reducible refine Kd.C_drewN ?_ _) | (with_reducible refine Kd.C_drew ?_)))
              (case side2 => exact HC0_0.out)
              (case side3 => repeat (first | exact (Kd.C_below HR0_1.out HB.out) | (with_reducible refine Kd.C_alloc ?_ _) | (with_reducible refine Kd.C_drewN ?_ _) | (with_reducible refine Kd.C_drew ?_)))
              (case side4 => exact HC0_1.out)
              rintro e w22 ⟨rfl, hb⟩
              refine ⟨_, rfl, ?_⟩
              have n0_ := Aside0.mk (Kd.R_below (by (with_reducible repeat (first | apply Kd.R_alloc | apply Kd.R_drewN | apply Kd.R_drew)); exact HO_5.out) hb)
              have n1_ := Aside0.mk (blk_below (g := gb542) (o := .cells #[.slice A0_0 l0_0.length c0_0, .slice A0_1 l0_1.length c0_1] 29 (0, 0)) (by (with_reducible repeat (first | refine blk_drewN ?_ _ | refine blk_drew ?_ | refine blk_alloc ?_ _)); exact BK542.out) hb)
              have n2_ := Aside0.mk (below_step (by repeat (first | (with_reducible first | exact HB.out | apply below_alloc | apply pw_below_drewN | apply below_drew1 | refine below_set ?_ GE542.out) | exact HB.out)) hb)
              clear HO_5
              clear BK542
              clear HB
              have HO_5 := n0_
              have BK542 := n1_
              have HB := n2_
              clear n0_ n1_ n2_
              (try clear hb)
              (try clear hb2)
              (try clear hk)
              (try clear hi)
              refine hK.out _ _ ⟨(blk_cell BK542.out 0).trans rfl, (blk_cell BK542.out 1).trans rfl⟩ (fun hHeld => ?_)
              clear hK K
              refine norm_ (a' := ?_) ?_ ?_
              rotate_left
              · show Act.put _ (some 24) _ = _
                simp only [Act.put, List.setIfInBounds_toArray, List.set_cons_zero, List.set_cons_succ, i64_w, i32_w]
                rfl
              refine one_ (i := 5) (N := some 26) #[true, true, true, true, true, true, false] rfl rfl (by kernel_rfl) (by decide) (fun K hK => ?_)
              refine goes_ Try.func71 (by kernel_rfl) rfl #[.agg #[.slice A0_0 l0_0.length c0_0, .slice A0_1 l0_1.length c0_1]] (by rfl) rfl rfl (by (try simp only [List.map_toArray, List.map_cons, List.map_nil]); first | done | rfl | (simp only [List.length_drop, List.length_take]; rfl)) ?_
              with_reducible refine (spec_NoOf.calls kj5 _ _ l0_0 _ _ l0_1 t548 _ ?side1 ?side2 ?side3 ?side4 A14.out).mono ?_
              (case side1 => repeat (first | exact (Kd.C_below HR0_0.out HB.out) | (with_reducible refine Kd.C_alloc ?_ _) | (with_reducible refine Kd.C_drewN ?_ _) | (with_reducible refine Kd.C_drew ?_)))
              (case side2 => exact HC0_0.out)
              (case side3 => repeat (first | exact (Kd.C_below HR0_1.out HB.out) | (with_reducible refine Kd.C_alloc ?_ _) | (with_reducible refine Kd.C_drewN ?_ _) | (with_reducible refine Kd.C_drew ?_)))
              (case side4 => exact HC0_1.out)
              rintro e w23 ⟨rfl, hb⟩
              refine ⟨_, rfl, ?_⟩
              have n0_ := Aside0.mk (Kd.R_below (by (with_reducible repeat (first | apply Kd.R_alloc | apply Kd.R_drewN | apply Kd.R_drew)); exact HO_5.out) hb)
              have n1_ := Aside0.mk (blk_below (g := gb542) (o := .cells #[.slice A0_0 l0_0.length c0_0, .slice A0_1 l0_1.length c0_1] 29 (0, 0)) (by (with_reducible repeat (first | refine blk_drewN ?_ _ | refine blk_drew ?_ | refine blk_alloc ?_ _)); exact BK542.out) hb)
              have n2_ := Aside0.mk (below_step (by repeat (first | (with_reducible first | exact HB.out | apply below_alloc | apply pw_below_drewN | apply below_drew1 | refine below_set ?_ GE542.out) | exact HB.out)) hb)
              clear HO_5
              clear BK542
              clear HB
              have HO_5 := n0_
              have BK542 := n1_
              have HB := n2_
              clear n0_ n1_ n2_
              (try clear hb)
              (try clear hb2)
              (try clear hk)
              (try clear hi)
              refine hK.out _ _ ⟨(blk_cell BK542.out 0).trans rfl, (blk_cell BK542.out 1).trans rfl⟩ (fun hHeld => ?_)
              clear hK K
              refine norm_ (a' := ?_) ?_ ?_
              rotate_left
              · show Act.put _ (some 26) _ = _
                simp only [Act.put, List.setIfInBounds_toArray, List.set_cons_zero, List.set_cons_succ, i64_w, i32_w]
                rfl
              refine pure_ (i := 6) (N := some 27) (v := ?_) (a' := ?_) #[true, true, true, true, true, true, true] rfl rfl (by kernel_rfl) (fun _ _ _ h => h) (Or.inl ⟨by rfl, ?_⟩) ?_ ?_
              rotate_left
              · intro w'
                go_simp
                with_reducible rfl
              rotate_left
              · simp only [Act.put, List.setIfInBounds_toArray, List.set_cons_zero, List.set_cons_succ, i64_w, i32_w]
                rfl
              refine done_ (by kernel_rfl) ?_
              try go_wp2
              go_roundg kj5
              case measure => have := HK1.out; have := HJ5.out; omega
              case rel => exact ⟨(x5_1), (wrap64 (x6_1 + 1)), (by first | rfl | (simp; done) | (simp [*]; done)), H', ⟨by have := HK1.out; have := HJ5.out; omega⟩, ⟨by (with_reducible repeat (first | apply Kd.R_alloc | apply Kd.R_drewN | apply Kd.R_drew)); exact HO_5.out⟩, ⟨by (with_reducible repeat (first | refine blk_drewN ?_ _ | refine blk_drew ?_ | refine blk_alloc ?_ _)); exact BK542.out⟩, ⟨by repeat (first | (with_reducible first | exact HB.out | apply below_alloc | apply pw_below_drewN | apply below_drew1 | refine below_set ?_ GE542.out) | exact HB.out)⟩⟩
          · replace c12 := Bool.eq_false_iff.mpr c12
            subst c12
            have H1 : (some x5_1) = some r := by rw [if_neg (show ¬ (false = true) by decide)] at H; exact H
            clear H
            have H := H1
            clear H1
            obtain rfl := Option.some.inj H
            go_wp2
            go_ret
            exact ⟨_, by first | rfl | (simp [errW_none, errW_some] <;> rfl) | (simp [*, errW_none, errW_some] <;> rfl), by (with_reducible repeat (first | apply Kd.R_alloc | apply Kd.R_drewN | apply Kd.R_drew)); exact HO_5.out, by repeat (first | (with_reducible first | exact HB.out | apply below_alloc | apply pw_below_drewN | apply below_drew1 | refine below_set ?_ GE542.out) | exact HB.out)⟩
end Go.Proofs.Ytjoadckkdophnaa.Print
end
section
namespace Go.Proofs.Ytjoadckkdophnaa.Print
open Go.RowKit Go.Proofs.YtjoadckkdophnaaW.PrintWords Go.Proofs.YtjoadckkdophnaaW.PrintLast Go.Proofs.YtjoadckkdophnaaW.PrintMore
set_option linter.unusedVariables false
set_option linter.unusedSimpArgs false
open Oml
theorem spec_ClearOf.ev (U : List (List Int)) (N : List Int) (a : Int) : Ev (fun k => spec_ClearOf.f k U N a) (if logicB U N = true then (if [a].all (inR U.length) = true then filI U.length (fun b => projI U N a b == noI U) else []) else []) := by
  unfold spec_ClearOf.f
  by_cases hc : logicB U N = true ∧ inR U.length a = true
  · obtain ⟨hl, ha⟩ := hc
    have L := logicB_iff.1 hl
    have Ia : In U a := inR_iff.1 ha
    have hln := L.len
    have hs := L.small
    rw [if_pos hl, if_pos (by simpa using ha)]
    have hnot : Ev (fun k => spec_NotOf.f k U N a) (notI N a) := Ev.eq (spec_NotOf.ev U N a) (by rw [if_pos hl, if_pos ha])
    have hno : Ev (fun k => spec_NoOf.f k U N) (noI U) := Ev.eq (spec_NoOf.ev U N) (by rw [if_pos hl])
    have hn0 := (L.in_not Ia).1
    refine Ev.loop (g := fun k s i => spec_ClearOf.l0 k a s i U N) U.length (fun i s => s = filI i (fun b => projI U N a b == noI U)) (by omega) (fun s h => ?_) (fun i s hi h => ?_) _ rfl
    · subst h
      refine Ev.succ ?_
      simp only [spec_ClearOf.l0]
      repeat (first | ((with_reducible refine Ev.ite_pos ?_ ?_); (first | assumption | (focus omega) | (focus (simp; done)))) | ((with_reducible refine Ev.ite_neg ?_ ?_); (first | assumption | (focus omega) | (focus (simp; done)))))
      refine Ev.succ ?_
      simp only [spec_ClearOf.j1]
      repeat (first | ((with_reducible refine Ev.ite_pos ?_ ?_); (first | assumption | (focus omega) | (focus (simp; done)))) | ((with_reducible refine Ev.ite_neg ?_ ?_); (first | assumption | (focus omega) | (focus (simp; done)))))
      exact Ev.now _
    · refine ⟨_, rfl, fun K => Ev.succ ?_⟩
      subst h
      have Ib : In U (i : Int) := ⟨by omega, by omega⟩
      have hpr : Ev (fun k => spec_ProjectOf.f k U N a i) (projI U N a i) := Ev.eq (spec_ProjectOf.ev U N a i) (by rw [if_pos hl, if_pos (by simp [inR_iff.2 Ia, inR_iff.2 Ib])]; rfl)
      simp only [spec_ClearOf.l0]
      repeat (first | ((with_reducible refine Ev.ite_pos ?_ ?_); (first | assumption | (focus omega) | (focus (simp; done)))) | ((with_reducible refine Ev.ite_neg ?_ ?_); (first | assumption | (focus omega) | (focus (simp; done)))))
      refine Ev.bind hnot ?_
      rw [decide_eq_true (show notI N a ≥ 0 from hn0)]
      refine Ev.succ ?_
      simp only [spec_ClearOf.j1]
      repeat (first | ((with_reducible refine Ev.ite_pos ?_ ?_); (first | assumption | (focus omega) | (focus (simp; done)))) | ((with_reducible refine Ev.ite_neg ?_ ?_); (first | assumption | (focus omega) | (focus (simp; done)))))
      refine Ev.bind hpr (Ev.bind hno ?_)
      rw [filI_succ] at K
      by_cases e : projI U N a i = noI U
      · rw [if_pos (by simpa using e)] at K
        have hlen : (filI i fun b => projI U N a b == noI U).length < 17592186044416 := by have := filI_length i (fun b => projI U N a b == noI U); omega
        repeat (first | ((with_reducible refine Ev.ite_pos ?_ ?_); (first | assumption | (focus omega) | (focus (simp; done)))) | ((with_reducible refine Ev.ite_neg ?_ ?_); (first | assumption | (focus omega) | (focus (simp; done)))))
        exact K
      · rw [if_neg (by simpa using e)] at K
        repeat (first | ((with_reducible refine Ev.ite_pos ?_ ?_); (first | assumption | (focus omega) | (focus (simp; done)))) | ((with_reducible refine Ev.ite_neg ?_ ?_); (first | assumption | (focus omega) | (focus (simp; done)))))
        exact K
  · have hv : (if logicB U N = true then (if [a].all (inR U.length) = true then filI U.length (fun b => projI U N a b == noI U) else []) else []) = ([] : List Int) := by
      by_cases hl : logicB U N = true
      · have ha : inR U.length a = false := by
          cases h : inR U.length a with
          | false => rfl
          | true => exact absurd ⟨hl, h⟩ hc
        rw [if_pos hl, if_neg (by simp [ha])]
      · rw [if_neg hl]
    rw [hv]
    have hnot : Ev (fun k => spec_NotOf.f k U N a) (-1) := Ev.eq (spec_NotOf.ev U N a) (by
      by_cases hl : logicB U N = true
      · rw [if_pos hl, if_neg (fun h => hc ⟨hl, h⟩)]
      · rw [if_neg hl])
    refine Ev.succ ?_
    simp only [spec_ClearOf.l0]
    by_cases hp : (0 : Int) < (N.length : Int)
    · repeat (first | ((with_reducible refine Ev.ite_pos ?_ ?_); (first | assumption | (focus omega) | (focus (simp; done)))) | ((with_reducible refine Ev.ite_neg ?_ ?_); (first | assumption | (focus omega) | (focus (simp; done)))))
      refine Ev.bind hnot ?_
      refine Ev.succ ?_
      simp only [spec_ClearOf.j1]
      repeat (first | ((with_reducible refine Ev.ite_pos ?_ ?_); (first | assumption | (focus omega) | (focus (simp; done)))) | ((with_reducible refine Ev.ite_neg ?_ ?_); (first | assumption | (focus omega) | (focus (simp; done)))))
      exact Ev.now _
    · repeat (first | ((with_reducible refine Ev.ite_pos ?_ ?_); (first | assumption | (focus omega) | (focus (simp; done)))) | ((with_reducible refine Ev.ite_neg ?_ ?_); (first | assumption | (focus omega) | (focus (simp; done)))))
      refine Ev.succ ?_
      simp only [spec_ClearOf.j1]
      repeat (first | ((with_reducible refine Ev.ite_pos ?_ ?_); (first | assumption | (focus omega) | (focus (simp; done)))) | ((with_reducible refine Ev.ite_neg ?_ ?_); (first | assumption | (focus omega) | (focus (simp; done)))))
      exact Ev.now _
end Go.Proofs.Ytjoadckkdophnaa.Print
end
section
namespace Go.Proofs.Ytjoadckkdophnaa.Print
open Go.RowKit Go.Proofs.YtjoadckkdophnaaW.PrintWords Go.Proofs.YtjoadckkdophnaaW.PrintLast Go.Proofs.YtjoadckkdophnaaW.PrintMore
set_option linter.unusedVariables false
set_option linter.unusedSimpArgs false
open Oml
def laws_FnExactClearOf.T10 : Bool × List (List Nat × List Nat) := (true, [([], []), ([], []), ([1], [1]), ([0, 2, 2], [0, 2]), ([3], [3])])
def laws_FnExactClearOf.B10 : List Nat := [0, 0, 2, 7, 15]
theorem laws_FnExactClearOf.tab10 : rtab .any (opsOf Try.f12 10) = laws_FnExactClearOf.T10 := by kernel_rfl
theorem laws_FnExactClearOf.bits10 : waitsOk laws_FnExactClearOf.T10.2 laws_FnExactClearOf.B10 = true := by kernel_rfl
set_option maxHeartbeats 4000000 in
set_option maxRecDepth 100000 in
theorem laws_FnExactClearOf.holds (A0 : Option Addr) (c0 : Nat) (U : List (List Int)) (A1 : Option Addr) (c1 : Nat) (N : List Int) (a1 : Int) (w : World) (hf : FitL U N) (hr0 : Kd.C (Kd.slice 3 (Kd.int .i64)) w A0 U.length U) (hc0 : U.length ≤ c0) (hr1 : Kd.C (Kd.int .i64) w A1 N.length N) (hc1 : N.length ≤ c1) :
    Calls Try.prog 12 #[.agg #[.slice A0 U.length c0, .slice A1 N.length c1], .int .i64 a1] w fun e w' => e = .returned (.bool true) ∧ Below w.heap.size w w' := by
  obtain ⟨s, e1, e2⟩ := szLogic_ev hf
  obtain ⟨K1, h1⟩ := e1.rounds
  have hu26 := Try.underlying26
  have hu29 := Try.underlying29
  have HR0 := Aside0.mk hr0
  have HC0 := Aside0.mk hc0
  have HR1 := Aside0.mk hr1
  have HC1 := Aside0.mk hc1
  have H1 := Aside0.mk h1
  clear hr0 hc0 hr1 hc1 h1 e1
  by_cases hs : s < 0
  · have hs' : decide (s < 0) = true := decide_eq_true hs
    clear hs e2 hf
    go_enter Try.func12, Try.ntmps12
    go_wp2_with (first | ((with_reducible refine gate_dst (N := 2) rfl ?_); refine box_event ?hg (N := 2) ?hd (cs := #[.slice A0 U.length c0, .slice A1 N.length c1]) (t := 26) ?hr ?_; (case hd => rfl); (case hg => rfl); (case hr => first | (go_simp; done) | (go_simp; rfl)); intro gb hg_ w1 hbox hb; have HB1 := Aside0.mk hb; have HX1 := Aside0.mk hbox; have hx0 : w1.cell? ⟨gb, 0, none⟩ = some (.slice A0 U.length c0) := (blk_cell hbox 0).trans rfl; have hx1 : w1.cell? ⟨gb, 1, none⟩ = some (.slice A1 N.length c1) := (blk_cell hbox 1).trans rfl; clear hbox hb hg_) | (go_at_call 17; (with_reducible refine (laws_szLogic.calls K1 _ _ U _ _ N 1048576 s _ ?t1 ?t2 ?t3 ?t4 H1.out).mono ?_); (case t1 => exact Kd.C_below HR0.out HB1.out); (case t2 => exact HC0.out); (case t3 => exact Kd.C_below HR1.out HB1.out); (case t4 => exact HC1.out); rintro e w2 ⟨rfl, hb⟩; have HB2 := Aside0.mk (below_step HB1.out hb); have HX2 := Aside0.mk (blk_below HX1.out hb); clear hx0 hx1 hb; have hx0 : w2.cell? ⟨gb, 0, none⟩ = some (.slice A0 U.length c0) := (blk_cell HX2.out 0).trans rfl; have hx1 : w2.cell? ⟨gb, 1, none⟩ = some (.slice A1 N.length c1) := (blk_cell HX2.out 1).trans rfl))
    go_ret
    exact ⟨rfl, HB2.out⟩
  · have hs' : decide (s < 0) = false := decide_eq_false hs
    have HM := Aside0.mk (e2 (by omega))
    have hm_ : U.length ≤ 1048576 ∧ (∀ r ∈ U, r.length ≤ 1048576) ∧ N.length ≤ 1048576 := HM.out
    have HMM := Aside0.mk hm_
    clear hs e2 hf hm_
    obtain ⟨K2, h2⟩ := (toLogic_ev HM.out).rounds
    obtain ⟨V, hV⟩ : ∃ V, V = (if logicB U N = true then (if [a1].all (inR U.length) = true then filI U.length (fun b => projI U N a1 b == noI U) else []) else []) := ⟨_, rfl⟩
    obtain ⟨K3, h3⟩ := (spec_ClearOf.ev U N a1).rounds
    have h4 : impl_ClearOf.f U N a1 = some ((if logicB U N = true then (if [a1].all (inR U.length) = true then filI U.length (fun b => projI U N a1 b == noI U) else []) else [])) := rfl
    rw [← hV] at h3 h4
    have hvl : V.length ≤ 1048576 := by rw [hV]; refine Nat.le_trans ?_ (show U.length ≤ 1048576 from HMM.out.1); split; (split; exact filI_length _ _; simp); simp
    obtain ⟨K5, h5⟩ := (eqLogic_ev HM.out).rounds
    have H2 := Aside0.mk h2
    have H3 := Aside0.mk h3
    have H4 := Aside0.mk h4
    have H5 := Aside0.mk h5
    have HV := Aside0.mk hvl
    have HV2 := Aside0.mk (show V.length ≤ 1152921504606846976 by omega)
    obtain ⟨mk, hmk⟩ : ∃ mk : Int, 1 + (lenSum U : Int) + (N.length : Int) = mk := ⟨_, rfl⟩
    obtain ⟨mv, hmv⟩ : ∃ mv : Int, 1 + (V.length : Int) = mv := ⟨_, rfl⟩
    have hmk0 : decide (mk < 0) = false := decide_eq_false (by omega)
    have hmv0 : decide (mv < 0) = false := decide_eq_false (by omega)
    have HMK := Aside0.mk hmk
    have HMV := Aside0.mk hmv
    clear h2 h3 h4 h5 hvl hmk hmv hV
    have tok1 : True := trivial
    go_enter Try.func12, Try.ntmps12
    go_wp2_with (first | ((with_reducible refine gate_dst (N := 2) rfl ?_); refine box_event ?hg (N := 2) ?hd (cs := #[.slice A0 U.length c0, .slice A1 N.length c1]) (t := 26) ?hr ?_; (case hd => rfl); (case hg => rfl); (case hr => first | (go_simp; done) | (go_simp; rfl)); intro gb hg_ w1 hbox hb; have HB1 := Aside0.mk hb; have HX1 := Aside0.mk hbox; have hx0 : w1.cell? ⟨gb, 0, none⟩ = some (.slice A0 U.length c0) := (blk_cell hbox 0).trans rfl; have hx1 : w1.cell? ⟨gb, 1, none⟩ = some (.slice A1 N.length c1) := (blk_cell hbox 1).trans rfl; clear hbox hb hg_) | (go_at_call 17; (with_reducible refine (laws_szLogic.calls K1 _ _ U _ _ N 1048576 s _ ?t1 ?t2 ?t3 ?t4 H1.out).mono ?_); (case t1 => exact Kd.C_below HR0.out HB1.out); (case t2 => exact HC0.out); (case t3 => exact Kd.C_below HR1.out HB1.out); (case t4 => exact HC1.out); rintro e w2 ⟨rfl, hb⟩; have HB2 := Aside0.mk (below_step HB1.out hb); have HX2 := Aside0.mk (blk_below HX1.out hb); clear hx0 hx1 hb; have hx0 : w2.cell? ⟨gb, 0, none⟩ = some (.slice A0 U.length c0) := (blk_cell HX2.out 0).trans rfl; have hx1 : w2.cell? ⟨gb, 1, none⟩ = some (.slice A1 N.length c1) := (blk_cell HX2.out 1).trans rfl) | (have _t := tok1; go_at_call 19; (with_reducible refine (laws_toLogic.calls K2 _ _ U _ _ N U N _ ?t1 ?t2 ?t3 ?t4 H2.out).mono ?_); (case t1 => exact Kd.C_below HR0.out HB2.out); (case t2 => exact HC0.out); (case t3 => exact Kd.C_below HR1.out HB2.out); (case t4 => exact HC1.out); rintro e w3 ⟨v0, v1, rfl, hs, hr, hb⟩; obtain ⟨Ap, cp, rfl⟩ := Kd.S_slice hs; obtain ⟨Aq, cq, rfl⟩ := Kd.R_slice hr; have HB3 := Aside0.mk (below_step HB2.out hb); have HX3 := Aside0.mk (blk_below HX2.out hb); have HS3 := Aside0.mk hs; have HR3 := Aside0.mk hr; clear hs hr hb hx0 hx1 tok1 _t; have tok2 : True := trivial) | (go_at_call 40; (with_reducible refine (spec_ClearOf.calls K3 _ _ U _ _ N a1 _ _ ?t1 ?t2 ?t3 ?t4 H3.out).mono ?_); (case t1 => exact (Kd.S_reads' HS3.out).2.2); (case t2 => exact (Kd.S_reads' HS3.out).2.1); (case t3 => exact (Kd.R_reads' HR3.out).2.2); (case t4 => exact (Kd.R_reads' HR3.out).2.1); rintro e w4 ⟨vw, rfl, ho, hb⟩; obtain ⟨Aw, cw, rfl⟩ := Kd.R_slice ho; have HA4 := Aside0.mk (show MkA w w4 gb A0 c0 U A1 c1 N w4.heap.size Aw cw V from ⟨below_step HB3.out hb, blk_below HX3.out hb, blk_lt (blk_below HX3.out hb), Nat.le_refl _, below_size (below_step HB3.out hb), Kd.R_lower (Kd.R_mono (Kd.R_bound ho) (fun k hk => hk.2.2.1)) (below_size HB3.out)⟩); have hx0 := HA4.out.cell0; have hx1 := HA4.out.cell1; clear ho hb HS3 HR3) | (have _t := tok2; go_at_call 19; (with_reducible refine (laws_toLogic.calls K2 _ _ U _ _ N U N _ ?t1 ?t2 ?t3 ?t4 H2.out).mono ?_); (case t1 => exact Kd.C_below HR0.out HA4.out.hb); (case t2 => exact HC0.out); (case t3 => exact Kd.C_below HR1.out HA4.out.hb); (case t4 => exact HC1.out); rintro e w5 ⟨v0, v1, rfl, hs, hr, hb⟩; obtain ⟨A2, c2, rfl⟩ := Kd.S_slice hs; obtain ⟨A3, c3, rfl⟩ := Kd.R_slice hr; have HB5 := Aside0.mk hb; have HS5 := Aside0.mk hs; have HR5 := Aside0.mk hr; clear hs hr hb hx0 hx1 tok2 _t))
    have HA6 := Aside0.mk ((HA4.out.below HB5.out).below (below_alloc (Below.refl w5.heap.size w5) (.cells #[.slice A2 U.length c2, .slice A3 N.length c3] 29)))
    have HQ6 := Aside0.mk (MkB.of (t2 := .slice none 0 0) HA4.out rfl HB5.out HS5.out HR5.out)
    have hq0 := HQ6.out.cell0
    have hq1 := HQ6.out.cell1
    clear HB5 HS5 HR5
    go_wp2_with (first | (go_at_call 41; (with_reducible refine (impl_ClearOf.calls A2 c2 U A3 c3 N a1 _ _ ?t1 ?t2 ?t3 ?t4 H4.out).mono ?_); (case t1 => exact (Kd.S_reads' HQ6.out.rx0).2.2); (case t2 => exact (Kd.S_reads' HQ6.out.rx0).2.1); (case t3 => exact (Kd.R_reads' HQ6.out.rx1).2.2); (case t4 => exact (Kd.R_reads' HQ6.out.rx1).2.1); rintro e w7 ⟨vg, rfl, ho, hb⟩; obtain ⟨Ag, cg, rfl⟩ := Kd.R_slice ho; have HA7 := Aside0.mk (HA6.out.below hb); have HQ7 := Aside0.mk (HQ6.out.below hb); have HC7 := Aside0.mk (show MkC w w7 w5.heap.size Ag cg V.length V from ⟨HQ7.out.ew, Kd.R_lower (Kd.R_mono (Kd.R_bound ho) (fun k hk => Nat.le_trans HQ6.out.ew hk.2.1)) (below_size HA6.out.hb)⟩); clear ho hb HA6 HQ6 hq0 hq1) | (go_at_call 36; (with_reducible refine (eq_nums Ag Aw cg cw V _ HV.out ?t1 ?t2 ?t3 ?t4).mono ?_); (case t1 => exact (Kd.R_reads' HC7.out.rg).2.2); (case t2 => exact (Kd.R_reads' HC7.out.rg).2.1); (case t3 => exact (Kd.R_reads' HA7.out.rw0).2.2); (case t4 => exact (Kd.R_reads' HA7.out.rw0).2.1); rintro e w' ⟨rfl, ⟨⟨nd, rfl⟩⟩⟩; have HA8 := Aside0.mk (HA7.out.below (pw_below_drewN (Below.refl _ _) nd)); have HQ8 := Aside0.mk (HQ7.out.below (pw_below_drewN (Below.refl _ _) nd)); have HC8 := Aside0.mk (HC7.out.below (pw_below_drewN (Below.refl _ _) nd)); clear HA7 HQ7 HC7))
    refine start_ (n := 5) (S := (fun w' => w'.cell? ⟨w5.heap.size, 0, none⟩ = some (.slice A2 U.length c2) ∧ w'.cell? ⟨w5.heap.size, 1, none⟩ = some (.slice A3 N.length c3) ∧ w'.cell? ⟨gb, 0, none⟩ = some (.slice A0 U.length c0) ∧ w'.cell? ⟨gb, 1, none⟩ = some (.slice A1 N.length c1))) (ds := []) #[false, false, false, false, false] (by kernel_rfl) rfl rfl ⟨(HQ8.out.below (below_drew1 (Below.refl _ _))).cell0, (HQ8.out.below (below_drew1 (Below.refl _ _))).cell1, (HA8.out.below (below_drew1 (Below.refl _ _))).cell0, (HA8.out.below (below_drew1 (Below.refl _ _))).cell1⟩ (fun hHeld => ?_)
    refine with_tabW laws_FnExactClearOf.tab10 laws_FnExactClearOf.bits10 (fun HT_ HW_ => ?_)
    have HA9 := Aside0.mk (HA8.out.below (below_drew1 (Below.refl _ _)))
    have HQ9 := Aside0.mk (HQ8.out.below (below_drew1 (Below.refl _ _)))
    have HC9 := Aside0.mk (HC8.out.below (below_drew1 (Below.refl _ _)))
    clear HA8 HQ8 HC8
    generalize (World.drewN w7 nd).drew = w9 at HA9 HQ9 HC9 hHeld ⊢
    refine take_ (i := 0) (N := some 31) (v := ?_) (a' := ?_) #[true, false, false, false, false] rfl rfl (take_ofW HT_.out HW_.out (by kernel_rfl)) (fun _ _ _ h => h) (Or.inl ⟨by rfl, ?_⟩) hHeld ?_ ?_
    rotate_left
    · rintro w' ⟨s0, s1, s2, s3⟩; go_simp; with_reducible rfl
    rotate_left
    · simp only [Act.put, List.setIfInBounds_toArray, List.set_cons_zero, List.set_cons_succ, i64_w, i32_w]; rfl
    refine take_ (i := 1) (N := some 32) (v := ?_) (a' := ?_) #[true, true, false, false, false] rfl rfl (take_ofW HT_.out HW_.out (by kernel_rfl)) (fun _ _ _ h => h) (Or.inl ⟨by rfl, ?_⟩) hHeld ?_ ?_
    rotate_left
    · rintro w' ⟨s0, s1, s2, s3⟩; go_simp; with_reducible rfl
    rotate_left
    · simp only [Act.put, List.setIfInBounds_toArray, List.set_cons_zero, List.set_cons_succ, i64_w, i32_w]; rfl
    refine one_ (i := 2) (N := some 33) #[true, true, true, false, false] rfl rfl (one_of HT_.out (by kernel_rfl)) (by decide) (fun K hK => ?_)
    refine goes_ Try.func19 (by kernel_rfl) rfl #[.agg #[.slice A0 U.length c0, .slice A1 N.length c1]] (by rfl) rfl rfl (by (try simp only [List.map_toArray, List.map_cons, List.map_nil]); first | done | rfl) ?_
    refine (laws_toLogic.calls K2 _ _ U _ _ N U N _ (Kd.C_below HR0.out HA9.out.hb) HC0.out (Kd.C_below HR1.out HA9.out.hb) HC1.out H2.out).mono ?_
    rintro e w10 ⟨v0, v1, rfl, hs, hr, hb⟩
    obtain ⟨A4, c4, rfl⟩ := Kd.S_slice hs
    obtain ⟨A5, c5, rfl⟩ := Kd.R_slice hr
    refine ⟨_, rfl, ?_⟩
    have HA10 := Aside0.mk (HA9.out.below hb)
    have HQ10 := Aside0.mk (HQ9.out.below hb)
    have HC10 := Aside0.mk (HC9.out.below hb)
    have HS10 := Aside0.mk hs
    have HR10 := Aside0.mk hr
    refine hK.out _ _ ⟨HQ10.out.cell0, HQ10.out.cell1, HA10.out.cell0, HA10.out.cell1⟩ (fun hHeld10 => ?_)
    clear hK K hs hr hb HA9 HQ9 HC9
    (try simp only [Act.put, List.setIfInBounds_toArray, List.set_cons_zero, List.set_cons_succ])
    refine one_ (i := 3) (N := some 34) #[true, true, true, true, false] rfl rfl (one_of HT_.out (by kernel_rfl)) (by decide) (fun K hK => ?_)
    refine goes_ Try.func21 (by kernel_rfl) rfl #[.agg #[.slice A2 U.length c2, .slice A3 N.length c3], .agg #[.slice A4 U.length c4, .slice A5 N.length c5]] (by rfl) rfl rfl (by (try simp only [List.map_toArray, List.map_cons, List.map_nil]); first | done | rfl) ?_
    refine (laws_eqLogic.calls K5 _ _ U _ _ N _ _ U _ _ N true _ (Kd.S_reads' HQ10.out.rx0).2.2 (Kd.S_reads' HQ10.out.rx0).2.1 (Kd.R_reads' HQ10.out.rx1).2.2 (Kd.R_reads' HQ10.out.rx1).2.1 (Kd.S_reads' HS10.out).2.2 (Kd.S_reads' HS10.out).2.1 (Kd.R_reads' HR10.out).2.2 (Kd.R_reads' HR10.out).2.1 H5.out).mono ?_
    rintro e w11 ⟨rfl, hb⟩
    refine ⟨_, rfl, ?_⟩
    have HA11 := Aside0.mk (HA10.out.below hb)
    have HQ11 := Aside0.mk (HQ10.out.below hb)
    have HC11 := Aside0.mk (HC10.out.below hb)
    refine hK.out _ _ ⟨HQ11.out.cell0, HQ11.out.cell1, HA11.out.cell0, HA11.out.cell1⟩ (fun hHeld11 => ?_)
    clear hK K hb HA10 HQ10 HC10 HS10 HR10
    (try simp only [Act.put, List.setIfInBounds_toArray, List.set_cons_zero, List.set_cons_succ])
    refine pure_ (i := 4) (N := some 35) (v := ?_) (a' := ?_) #[true, true, true, true, true] rfl rfl (any_of HT_.out (by kernel_rfl)) (fun _ _ _ h => h) (Or.inl ⟨by rfl, ?_⟩) ?_ ?_
    rotate_left
    · intro w'; go_simp; with_reducible rfl
    rotate_left
    · simp only [Act.put, List.setIfInBounds_toArray, List.set_cons_zero, List.set_cons_succ, i64_w, i32_w]; rfl
    refine done_ (done_of HT_.out (by kernel_rfl)) ?_
    have hq0 := HQ11.out.cell0
    have hq1 := HQ11.out.cell1
    have HE := Aside0.mk HQ11.out.el
    go_wp2_with (first | (go_at_call 37; (with_reducible refine (markLogic_calls U N 1 (fun k => w4.heap.size ≤ k ∧ k < w5.heap.size ∧ some k ≠ (Value.slice A3 N.length c3).ownBlock) (fun k => some k = (Value.slice A3 N.length c3).ownBlock ∧ w4.heap.size ≤ k ∧ k < w5.heap.size) A2 c2 A3 c3 w _ ?t0 ?t1 ?t2 ?t3 (by omega) (by omega) HMM.out.1 HMM.out.2.1 HMM.out.2.2).mono ?_); (case t0 => exact HA11.out.hb); (case t1 => exact HQ11.out.rx0); (case t2 => exact HQ11.out.rx1); (case t3 => exact fun k h1 h2 => h2.2.2 h1.1); rintro e w12 ⟨he, hs, hr, hb, hk⟩; rw [HMK.out] at he; subst he; have HA12 := Aside0.mk (HA11.out.kept hb hk (fun k h => h.elim (fun h => h.1) (fun h => h.2.1))); have HC12 := Aside0.mk (HC11.out.kept hk (fun k h => h.elim (fun h => h.2.1) (fun h => h.2.2))); clear hs hr hb hk HA11 HC11 hq0 hq1; have tok3 : True := trivial) | (have _t := tok3; go_at_call 36; (with_reducible refine (eq_nums Ag Aw cg cw V _ HV.out ?t1 ?t2 ?t3 ?t4).mono ?_); (case t1 => exact (Kd.R_reads' HC12.out.rg).2.2); (case t2 => exact (Kd.R_reads' HC12.out.rg).2.1); (case t3 => exact (Kd.R_reads' HA12.out.rw0).2.2); (case t4 => exact (Kd.R_reads' HA12.out.rw0).2.1); rintro e w' ⟨rfl, ⟨⟨nd2, rfl⟩⟩⟩; have HA13 := Aside0.mk (HA12.out.below (pw_below_drewN (Below.refl _ _) nd2)); have HC13 := Aside0.mk (HC12.out.below (pw_below_drewN (Below.refl _ _) nd2)); clear HA12 HC12 tok3 _t) | (go_at_call 38; (with_reducible refine (mark_nums Ag cg w5.heap.size V _ HV2.out HA13.out.hb HC13.out).mono ?_); rintro e w14 ⟨he, hc, hb, hk⟩; rw [HMV.out] at he; subst he; have HA14 := Aside0.mk (HA13.out.kept hb hk (fun k h => Nat.le_trans HE.out h)); have HC14 := Aside0.mk hc; clear hc hb hk HA13 HC13; have tok4 : True := trivial) | (have _t := tok4; go_at_call 39; (with_reducible refine (held_nums Ag cg V.length _ HV2.out ?t1 ?t2).mono ?_); (case t1 => exact (Kd.R_reads' HC14.out.rg).2.2 |> fun h => by rwa [numL_length] at h); (case t2 => exact (Kd.R_reads' HC14.out.rg).2.1); rintro e w' ⟨he, ⟨⟨nd3, rfl⟩⟩⟩; rw [HMV.out] at he; subst he; have HA15 := Aside0.mk (HA14.out.below (pw_below_drewN (Below.refl _ _) nd3)); have HC15 := Aside0.mk (HC14.out.below (pw_below_drewN (Below.refl _ _) nd3)); have hy0 := HA15.out.cell0; have hy1 := HA15.out.cell1; clear HA14 HC14 tok4 _t) | (go_at_call 19; (with_reducible refine (laws_toLogic.calls K2 _ _ U _ _ N U N _ ?t1 ?t2 ?t3 ?t4 H2.out).mono ?_); (case t1 => exact Kd.C_below HR0.out HA15.out.hb); (case t2 => exact HC0.out); (case t3 => exact Kd.C_below HR1.out HA15.out.hb); (case t4 => exact HC1.out); rintro e w16 ⟨v0, v1, rfl, hs, hr, hb⟩; obtain ⟨A6, c6, rfl⟩ := Kd.S_slice hs; obtain ⟨A7, c7, rfl⟩ := Kd.R_slice hr; have HA16 := Aside0.mk (HA15.out.below hb); have HC16 := Aside0.mk (HC15.out.below hb); have HS16 := Aside0.mk hs; have HR16 := Aside0.mk hr; clear hs hr hb hy0 hy1 HA15 HC15) | (go_at_call 41; (with_reducible refine (impl_ClearOf.calls A6 c6 U A7 c7 N a1 _ _ ?t1 ?t2 ?t3 ?t4 H4.out).mono ?_); (case t1 => exact (Kd.S_reads' HS16.out).2.2); (case t2 => exact (Kd.S_reads' HS16.out).2.1); (case t3 => exact (Kd.R_reads' HR16.out).2.2); (case t4 => exact (Kd.R_reads' HR16.out).2.1); rintro e w17 ⟨vh, rfl, ho, hb⟩; obtain ⟨Ah, ch, rfl⟩ := Kd.R_slice ho; have HA17 := Aside0.mk (HA16.out.below hb); have HC17 := Aside0.mk (HC16.out.below hb); have HO17 := Aside0.mk ho; have HBZ := Aside0.mk HA17.out.hb; clear ho hb HA16 HC16 HS16 HR16; have tok5 : True := trivial) | (have _t := tok5; go_at_call 36; (with_reducible refine (eq_nums Ah Aw ch cw V _ HV.out ?t1 ?t2 ?t3 ?t4).mono ?_); (case t1 => exact (Kd.R_reads' HO17.out).2.2); (case t2 => exact (Kd.R_reads' HO17.out).2.1); (case t3 => exact (Kd.R_reads' HA17.out.rw0).2.2); (case t4 => exact (Kd.R_reads' HA17.out.rw0).2.1); rintro e w' ⟨rfl, ⟨⟨nd4, rfl⟩⟩⟩; have HA18 := Aside0.mk (HA17.out.below (pw_below_drewN (Below.refl _ _) nd4)); have HC18 := Aside0.mk (HC17.out.below (pw_below_drewN (Below.refl _ _) nd4)); clear HA17 HC17 HO17 tok5 _t; have tok6 : True := trivial) | (have _t := tok6; go_at_call 39; (with_reducible refine (held_nums Ag cg V.length _ HV2.out ?t1 ?t2).mono ?_); (case t1 => exact (Kd.R_reads' HC18.out.rg).2.2 |> fun h => by rwa [numL_length] at h); (case t2 => exact (Kd.R_reads' HC18.out.rg).2.1); rintro e w' ⟨he, ⟨⟨nd5, rfl⟩⟩⟩; rw [HMV.out] at he; subst he; have HA19 := Aside0.mk (HA18.out.below (pw_below_drewN (Below.refl _ _) nd5)); clear HA18 HC18 tok6 _t))
    go_ret
    exact ⟨rfl, by repeat (first | exact HBZ.out | apply pw_below_drewN | apply below_drew1)⟩
end Go.Proofs.Ytjoadckkdophnaa.Print
end
