/- Part 4 of what is common to several claims of this seat: BlocksOfL. -/
import Derived.Test.YtmbapglhkbpokaaLB3
import Derived.Below
import Derived.Deep.Draws
import Derived.Deep.AppendLies
import Derived.Maps.AppendAt
import Derived.OwnWalk
import Derived.Laws.BytesArg
import Derived.Laws.MakeOwn
import Derived.Laws.OwnMore
import Derived.Deep.OwnRows
import Derived.Tactics
import Derived.Lib.ConvBytes
import Derived.Laws.Slices
import Derived.WalkKit
import Derived.KernelRfl
import Derived.RowKit3
import Derived.Deep.LoopGhost
import Derived.Deep.QuietTactic
import Derived.BigQuiet
import Derived.WideLaws
import Derived.Deep.DeepCutAuto
import Derived.Deep.CutBlock
import Derived.Deep.RegionHeld3
import Derived.Laws.Rows
import Derived.Lib.AppendStr
import Derived.ArgAppend
import Derived.Laws.IdiomCopy
import Derived.RowKit
import Derived.OrdersHeld
import Derived.Laws.BitsLemmas
import Derived.Test.YtmbapglhkbpokaaProg
set_option linter.all false
section
namespace Go.Proofs.Ytmbapglhkbpokaa.Print
open Go.RowKit Go.Proofs.YtmbapglhkbpokaaW.PrintWords Go.Proofs.YtmbapglhkbpokaaW.PrintLast Go.Proofs.YtmbapglhkbpokaaW.PrintMore
section
attribute [local go_sem] max2_int min2_int max_two min_two max_three min_three max_four min_four
mutual
def spec_l20Logic.j2 : Nat → Int → List Int → Int → List (List Int) → List Int → Option ((List (List Int)) × List Int × Int)
 | 0, _, _, _, _, _ => none
 | k + 1, x1, x1000, x1001, x241000, x241001 => spec_l20Logic.l0 k x1 (([] : List Int)) 0 x1000 x1001 x241000 x241001
def spec_l20Logic.l0 : Nat → Int → List Int → Int → List Int → Int → List (List Int) → List Int → Option ((List (List Int)) × List Int × Int)
 | 0, _, _, _, _, _, _, _ => none
 | k + 1, x1, x6, x7, x1000, x1001, x241000, x241001 => if x7 < (x241001.length : Int) then ((spec_l20Rd_pick.f k x1000 x1001 (wrap64 (x7 + 1))).bind fun bt350 => (if x6.length < 17592186044416 then (spec_l20Logic.l1 k x1 (x6 ++ [x7]) x7 bt350.1 x7 x1000 bt350.2 x241000 x241001) else (none))) else ((spec_l20Rd_pick.f k x1000 x1001 2).bind fun bt358 => (if bt358.1 = 0 then ((spec_l20Rename.f k x241000 x241001 x6).bind fun bt360 => (spec_l20Logic.j5 k x1 x1000 bt358.2 bt360.1 bt360.2)) else (spec_l20Logic.j5 k x1 x1000 bt358.2 x241000 x241001)))
def spec_l20Logic.l1 : Nat → Int → List Int → Int → Int → Int → List Int → Int → List (List Int) → List Int → Option ((List (List Int)) × List Int × Int)
 | 0, _, _, _, _, _, _, _, _, _ => none
 | k + 1, x1, x6, x7, x8, x9, x1000, x1001, x241000, x241001 => if x9 > x8 then (if 0 ≤ (wrap64 (x9 - 1)) then (if (wrap64 (x9 - 1)) < (x6.length : Int) then (if 0 ≤ x9 then (if x9 < (x6.length : Int) then (spec_l20Logic.l1 k x1 (x6.set (x9 : Int).toNat (rd x6 (wrap64 (x9 - 1)))) x7 x8 (wrap64 (x9 - 1)) x1000 x1001 x241000 x241001) else (none)) else (none)) else (none)) else (none)) else (if 0 ≤ x8 then (if x8 < (x6.length : Int) then (spec_l20Logic.l0 k x1 (x6.set (x8 : Int).toNat x7) (wrap64 (x7 + 1)) x1000 x1001 x241000 x241001) else (none)) else (none))
def spec_l20Logic.j5 : Nat → Int → List Int → Int → List (List Int) → List Int → Option ((List (List Int)) × List Int × Int)
 | 0, _, _, _, _, _ => none
 | k + 1, x1, x1000, x1001, x241000, x241001 => (spec_l20Rd_odd.f k x1000 x1001 x1).bind fun bt366 => (if bt366.1 = true then ((spec_l20Rd_pick.f k x1000 bt366.2 4).bind fun bt368 => (if bt368.1 = 0 then (some (([] : List (List Int)), ([] : List Int), bt368.2)) else (if bt368.1 = 1 then (if 1 ≤ (x241001.length : Int) then (some (x241000, (x241001.drop (1 : Int).toNat), bt368.2)) else (none)) else (if bt368.1 = 2 then ((spec_l20Rd_pick.f k x1000 bt368.2 (x241001.length : Int)).bind fun bt373 => ((spec_l20Rd_pick.f k x1000 bt373.2 (wrap64 ((x241001.length : Int) + 1))).bind fun bt375 => (if 0 ≤ bt373.1 then (if bt373.1 < (x241001.length : Int) then (some (x241000, (x241001.set (bt373.1 : Int).toNat bt375.1), bt375.2)) else (none)) else (none)))) else (if 0 ≤ (wrap64 ((x241000.length : Int) - 1)) then (if (wrap64 ((x241000.length : Int) - 1)) < (x241000.length : Int) then (if 0 < ((rd_L2 x241000 (wrap64 ((x241000.length : Int) - 1))).length : Int) then (some ((x241000.set ((wrap64 ((x241000.length : Int) - 1)) : Int).toNat ((rd_L2 x241000 (wrap64 ((x241000.length : Int) - 1))).set (0 : Int).toNat 1)), x241001, bt368.2)) else (none)) else (none)) else (none)))))) else (some (x241000, x241001, bt366.2)))
def spec_l20Logic.j0 : Nat → Int → Int → Bool → List Int → Int → Option ((List (List Int)) × List Int × Int)
 | 0, _, _, _, _, _ => none
 | k + 1, x1, x12, x14, x1000, x1001 => if x14 = true then ((spec_l20Rd_pick.f k x1000 x1001 4).bind fun bt243 => ((spec_l20Boole.f k bt243.1).bind fun bt245 => (spec_l20Logic.j2 k x1 x1000 bt243.2 bt245.1 bt245.2))) else (if x12 = 2 then (spec_l20Logic.j1 k x1 x12 (x12 == 2) x1000 x1001) else (spec_l20Logic.j1 k x1 x12 (x12 == 3) x1000 x1001))
def spec_l20Logic.j1 : Nat → Int → Int → Bool → List Int → Int → Option ((List (List Int)) × List Int × Int)
 | 0, _, _, _, _, _ => none
 | k + 1, x1, x12, x20, x1000, x1001 => if x20 = true then ((spec_l20Boole.f k 2).bind fun bt251 => ((spec_l20Boole.f k 2).bind fun bt257 => ((spec_l20Glued.f k bt251.1 bt251.2 bt257.1 bt257.2).bind fun bt263 => (spec_l20Logic.j2 k x1 x1000 x1001 bt263.1 bt263.2)))) else (if x12 = 4 then ((spec_l20Boole.f k 2).bind fun bt269 => ((spec_l20Boole.f k 3).bind fun bt275 => ((spec_l20Glued.f k bt269.1 bt269.2 bt275.1 bt275.2).bind fun bt281 => (spec_l20Logic.j2 k x1 x1000 x1001 bt281.1 bt281.2)))) else (if x12 = 5 then ((spec_l20Boole.f k 2).bind fun bt287 => ((spec_l20Boole.f k 2).bind fun bt293 => ((spec_l20Glued.f k bt287.1 bt287.2 bt293.1 bt293.2).bind fun bt299 => ((spec_l20Boole.f k 2).bind fun bt305 => ((spec_l20Glued.f k bt299.1 bt299.2 bt305.1 bt305.2).bind fun bt311 => (spec_l20Logic.j2 k x1 x1000 x1001 bt311.1 bt311.2)))))) else (if x12 = 6 then ((spec_l20Six.f).bind fun bt317 => (spec_l20Logic.j2 k x1 x1000 x1001 bt317.1 bt317.2)) else (if x12 = 7 then ((spec_l20Six.f).bind fun bt323 => ((spec_l20Boole.f k 2).bind fun bt329 => ((spec_l20Glued.f k bt323.1 bt323.2 bt329.1 bt329.2).bind fun bt335 => (spec_l20Logic.j2 k x1 x1000 x1001 bt335.1 bt335.2)))) else ((spec_l20Pasted.f k).bind fun bt341 => (spec_l20Logic.j2 k x1 x1000 x1001 bt341.1 bt341.2))))))
end
def spec_l20Logic.f (k : Nat) (s0_0 : List Int) (s0_1 : Int) (a1 : Int) : Option ((List (List Int)) × List Int × Int) := (spec_l20Rd_pick.f k s0_0 s0_1 9).bind fun bt241 => (if bt241.1 = 0 then (spec_l20Logic.j0 k a1 bt241.1 (bt241.1 == 0) s0_0 bt241.2) else (spec_l20Logic.j0 k a1 bt241.1 (bt241.1 == 1) s0_0 bt241.2))
def spec_l20Logic.T39 : Bool × List (List Nat × List Nat) := (true, [([], []), ([0], [0]), ([], []), ([], []), ([3], [3]), ([4], [4]), ([2, 5], [2, 5]), ([], []), ([], []), ([8], [8]), ([9], [9]), ([10], [10]), ([7, 11, 6], [7, 11]), ([1, 6, 0, 1, 2, 3, 4, 5, 6, 7, 8, 9, 10, 11, 12], [1, 6]), ([13, 12, 12, 0, 1, 2, 3, 4, 5, 6, 7, 8, 9, 10, 11, 12], [12, 13])])
def spec_l20Logic.B39 : List Nat := [0, 1, 0, 0, 8, 24, 60, 0, 0, 256, 768, 1792, 4092, 8191, 16383]
theorem spec_l20Logic.tab39 : rtab .any (opsOf Try.f16 39) = spec_l20Logic.T39 := by kernel_rfl
theorem spec_l20Logic.bits39 : waitsOk spec_l20Logic.T39.2 spec_l20Logic.B39 = true := by kernel_rfl
set_option maxHeartbeats 8000000 in
set_option maxRecDepth 100000 in
theorem spec_l20Logic.calls (k : Nat) (g : Nat) (s0_0 : List Int) (s0_1 : Int) (a1 : Int) (r1 : List (List Int)) (r2 : List Int) (r3 : Int) (w0 w : World) (hI : IsS61 w0 w g s0_0 s0_1) (hB : Below w0.heap.size w0 w) (h : spec_l20Logic.f k s0_0 s0_1 a1 = some (r1, r2, r3)) :
  Calls Try.prog 16 #[.pointer (some ⟨g, 0, none⟩), .int .i64 a1] w fun e w' => ∃ v0_ v1_ : Value, e = .returned (.agg #[v0_, v1_]) ∧ Kd.S (Kd.slice 3 (Kd.int .i64)) 24 w' w.heap.size (fun k_ => some k_ ≠ (v1_ : Value).ownBlock) v0_ r1 ∧ Kd.Q (Kd.int .i64) 3 w' w.heap.size (fun _ => True) v1_ r2 ∧ IsS61 w0 w' g s0_0 r3 ∧ Below w0.heap.size w0 w' ∧ KeepBut w w' g none := by
 have hu26:=Try.underlying26;have a2:=zqm hI;have HK:=zqm (KeepBut.refl w g none);have HL:=zqm hB.size;clear hI;have HW0:=zqm hB.size;have HB:=zqm hB;clear hB;have H:((spec_l20Rd_pick.f k s0_0 s0_1 9).bind fun j8=>(if j8.1=0 then(spec_l20Logic.j0 k a1 j8.1 (j8.1==0) s0_0 j8.2) else(spec_l20Logic.j0 k a1 j8.1 (j8.1==1) s0_0 j8.2)))=some (r1,r2,r3):=h;clear h;replace H:=Option.bind_eq_some_iff.mp H;obtain⟨⟨c3,c5⟩,A30,H⟩:=H;replace H:(if c3=0 then(spec_l20Logic.j0 k a1 c3 (c3==0) s0_0 c5) else(spec_l20Logic.j0 k a1 c3 (c3==1) s0_0 c5))=some (r1,r2,r3):=H;have A3:=zqm A30;clear A30;have HC4:=zqm H;clear H
 go_enter Try.func16,Try.ntmps16
 go_upto_block 0 with (first|((with_reducible refine gate_dst (N:=4) rfl ?_);refine box_event ?hg (N:=4) ?hd (cs:= #[.slice none 0 0,.slice none 0 0]) (t:=26) ?hr ?_;(case hd=>rfl);(case hg=>rfl);(case hr=> exact zq15);intro b1 hg w5 hbox hb;have c8:=zqm (IsS61.below zq90 hb);have d0:=zqm (KeepBut.trans zq28 (KeepBut.of_below hb g none) (.inl rfl));replace HB:=zqm (below_step (by repeat(first|(with_reducible first|exact HB.out|apply below_alloc|apply pw_below_drewN|apply below_drew1|refine below_set ?_ (IsS61.ge a2.out))|exact HB.out)) hb);have a4:=zqm (hbox);have a9:=zqm ((by rw [hg];exact(keep_size (w:=w) (g:=g) (row:=none) zq28):w.heap.size≤b1));have b4:=zqm ((Nat.le_trans HW0.out (by rw [hg];exact(keep_size (w:=w) (g:=g) (row:=none) zq28):w.heap.size≤b1):w0.heap.size≤b1));have a7:=zqm ((by rw [hg];exact Nat.ne_of_lt (IsS61.lt (show IsS61 w0 _ g s0_0 s0_1 from zq90)):g≠b1));have c7:=zqm ((by rw [hg];exact Nat.ne_of_gt (IsS61.lt (show IsS61 w0 _ g s0_0 s0_1 from zq90)):b1≠g));clear a2 HK;have a2:=c8;have HK:=d0;clear c8 d0 hb hbox hg)|((with_reducible refine gate_dst (N:=5) rfl ?_);refine box_event ?hg (N:=5) ?hd (cs:= #[.slice none 0 0,.slice none 0 0]) (t:=26) ?hr ?_;(case hd=>rfl);(case hg=>rfl);(case hr=> exact zq15);intro a8 hg w6 hbox hb;have c8:=zqm (IsS61.below zq48 hb);have d0:=zqm (blk_below (g:=b1) (o:= .cells #[.slice none 0 0,.slice none 0 0] 26 (0,0)) (zqe a4.out) hb);have e6:=zqm (KeepBut.trans zq72 (KeepBut.of_below hb g none) (.inl rfl));replace HB:=zqm (below_step (by repeat(first|(with_reducible first|exact HB.out|apply below_alloc|apply pw_below_drewN|apply below_drew1|refine below_set ?_ (IsS61.ge a2.out)|refine below_set ?_ b4.out)|exact HB.out)) hb);have a0:=zqm (hbox);have b0:=zqm ((by rw [hg];exact(keep_size (w:=w) (g:=g) (row:=none) zq72):w.heap.size≤a8));have b5:=zqm ((Nat.le_trans HW0.out (by rw [hg];exact(keep_size (w:=w) (g:=g) (row:=none) zq72):w.heap.size≤a8):w0.heap.size≤a8));have b3:=zqm ((by rw [hg];exact Nat.ne_of_lt (blk_lt (g:=b1) (o:= .cells #[.slice none 0 0,.slice none 0 0] 26 (0,0)) (zqe a4.out)):b1≠a8));have c6:=zqm ((by rw [hg];exact Nat.ne_of_gt (blk_lt (g:=b1) (o:= .cells #[.slice none 0 0,.slice none 0 0] 26 (0,0)) (zqe a4.out)):a8≠b1));have a6:=zqm ((by rw [hg];exact Nat.ne_of_lt (IsS61.lt (show IsS61 w0 _ g s0_0 s0_1 from zq48)):g≠a8));have c2:=zqm ((by rw [hg];exact Nat.ne_of_gt (IsS61.lt (show IsS61 w0 _ g s0_0 s0_1 from zq48)):a8≠g));clear a2 a4 HK;have a2:=c8;have a4:=d0;have HK:=e6;clear c8 d0 e6 hb hbox hg;have b8z:=c6.out;have b9b:=b3.out;have b9a:=c2.out;have b9c:=a6.out;have b5n:w6.cell? ⟨a8,0,none⟩=some (.slice none 0 0):=(blk_cell a0.out 0).trans rfl;have b5o:w6.cell? ⟨a8,1,none⟩=some (.slice none 0 0):=(blk_cell a0.out 1).trans rfl;have b5p:=blk_frozen a0.out 0;have b5q:=blk_frozen a0.out 1)|((with_reducible refine gate_callee (f:=39) rfl ?_);refine goesL_ (some 12) rfl rfl Try.func39 zqk rfl #[.pointer (some ⟨g,0,none⟩),.int .i64 9] rfl zq5 ?_;(with_reducible refine(spec_l20Rd_pick.calls k g s0_0 s0_1 9 c3 c5 w0 _ ?side1 ?side2 A3.out).mono ?_);(case side1=> exact zq1);(case side2=> exact zq3);rintro e w10 ⟨rfl,hi,hb,hk⟩;refine⟨_,rfl,?_⟩;replace a4:=zqm (KeepBut.blk hk (g':=b1) (o:= .cells #[.slice none 0 0,.slice none 0 0] 26 (0,0)) zq32 c7.out (by simp));replace a0:=zqm (KeepBut.blk hk (g':=a8) (o:= .cells #[.slice none 0 0,.slice none 0 0] 26 (0,0)) zq93 c2.out (by simp));replace HK:=zqm (KeepBut.trans zq0 hk (.inl rfl));replace HB:=zqm (hb);replace a2:=zqm (hi);clear hb hk hi))
 (try simp only [Act.put,List.setIfInBounds_toArray,List.set_cons_zero,List.set_cons_succ])
 go_cut [] (fun wc=> ∃(kq:Nat) (i7:Int) (c4:List (List Int)) (h1:List Int) (b8:Value) (b9:Value),Aside0 (spec_l20Logic.j2 kq a1 s0_0 i7 c4 h1=some (r1,r2,r3))∧Aside0 (kq≤k)∧Aside0 (Kd.S (Kd.slice 3 (Kd.int .i64)) 24 wc w.heap.size (fun k_=>some k_≠(b9:Value).ownBlock) b8 c4)∧Aside0 (Kd.Q (Kd.int .i64) 3 wc w.heap.size (fun _=>True) b9 h1)∧Aside0 (wc.heap[b1]? =some (.cells #[(.slice none 0 0),(.slice none 0 0)] 26 (0,0)))∧Aside0 (wc.heap[a8]? =some (.cells #[b8,b9] 26 (0,0)))∧Aside0 (IsS61 w0 wc g s0_0 i7)∧Aside0 (KeepBut w wc g none)∧Aside0 (Below w0.heap.size w0 wc))
 case first=>
  have H:=HC4.out;clear HC4;have a0w:=zqm H;clear H
  go_upto_if 14 with (fail)
  go_cut [14] (fun v14 wc=> ∃(kq:Nat) (o0:Bool),v14= .bool o0∧Aside0 (spec_l20Logic.j0 kq a1 c3 o0 s0_0 c5=some (r1,r2,r3))∧Aside0 (kq≤k)∧Aside0 (wc.heap[b1]? =some (.cells #[(.slice none 0 0),(.slice none 0 0)] 26 (0,0)))∧Aside0 (wc.heap[a8]? =some (.cells #[(.slice none 0 0),(.slice none 0 0)] 26 (0,0)))∧Aside0 (IsS61 w0 wc g s0_0 c5)∧Aside0 (KeepBut w wc g none)∧Aside0 (Below w0.heap.size w0 wc))
  case first=>
   have H:=a0w.out;clear a0w
   by_cases r5:c3=0
   ·rw [if_pos r5] at H;have n5:(c3==0)=true:=beq_iff_eq.mpr r5;have a5u:(c3 !=0)=false:=bne_eq_false_iff_eq.mpr r5;clear r5;(first|rw [n5]|(simp only [i64_w,i32_w];rw [n5])|skip);have H':=zqm H;clear H
    go_wp2
    go_meet
    case rel=>exact⟨_,((c3==0)),zq6,H',⟨zq123⟩,⟨zqe a4.out⟩,⟨zqe a0.out⟩,⟨zq1⟩,⟨zq0⟩,⟨zq3⟩⟩
   ·rw [if_neg r5] at H;have n5:(c3==0)=false:=beq_eq_false_iff_ne.mpr r5;have a5u:(c3 !=0)=true:=bne_iff_ne.mpr r5;(first|rw [n5]|(simp only [i64_w,i32_w];rw [n5])|skip);have H':=zqm H;clear H
    go_wp2
    go_meet
    case rel=>exact⟨_,((c3==1)),zq6,H',⟨zq123⟩,⟨zqe a4.out⟩,⟨zqe a0.out⟩,⟨zq1⟩,⟨zq0⟩,⟨zq3⟩⟩
  case rest=>
   clear a0w;obtain⟨kq,o0,rfl,HA,i8,a4,a0,a2,HK,HB⟩:=hcut
   cases kq with
   |zero=>exact absurd HA.out (by simp [spec_l20Logic.j0])
   |succ h2=>
    have H:=HA.out;clear HA;simp only [spec_l20Logic.j0] at H
    by_cases c13:o0=true
    ·subst c13;(have H1:((spec_l20Rd_pick.f h2 s0_0 c5 4).bind fun a2z=>((spec_l20Boole.f h2 a2z.1).bind fun n0=>(spec_l20Logic.j2 h2 a1 s0_0 a2z.2 n0.1 n0.2)))=some (r1,r2,r3):=by rw [if_pos rfl] at H;exact H);clear H;have H:=H1;clear H1;replace H:=Option.bind_eq_some_iff.mp H;obtain⟨⟨z7,z8⟩,a3t,H⟩:=H;replace H:((spec_l20Boole.f h2 z7).bind fun n0=>(spec_l20Logic.j2 h2 a1 s0_0 z8 n0.1 n0.2))=some (r1,r2,r3):=H;have A14:=zqm a3t;clear a3t;replace H:=Option.bind_eq_some_iff.mp H;obtain⟨⟨m0,o7⟩,a3u,H⟩:=H;replace H:(spec_l20Logic.j2 h2 a1 s0_0 z8 m0 o7)=some (r1,r2,r3):=H;have A15:=zqm a3u;clear a3u;have H':=zqm H;clear H
     go_wp2_with (first|((with_reducible refine gate_callee (f:=39) rfl ?_);refine goesL_ (some 18) rfl rfl Try.func39 zqk rfl #[.pointer (some ⟨g,0,none⟩),.int .i64 4] rfl zq5 ?_;(with_reducible refine(spec_l20Rd_pick.calls h2 g s0_0 c5 4 z7 z8 w0 _ ?side1 ?side2 A14.out).mono ?_);(case side1=> exact zq1);(case side2=> exact zq3);rintro e w16 ⟨rfl,hi,hb,hk⟩;refine⟨_,rfl,?_⟩;replace a4:=zqm (KeepBut.blk hk (g':=b1) (o:= .cells #[.slice none 0 0,.slice none 0 0] 26 (0,0)) (zqe a4.out) c7.out (by simp));replace a0:=zqm (KeepBut.blk hk (g':=a8) (o:= .cells #[.slice none 0 0,.slice none 0 0] 26 (0,0)) (zqe a0.out) c2.out (by simp));replace HK:=zqm (KeepBut.trans zq0 hk (.inl rfl));replace HB:=zqm (hb);replace a2:=zqm (hi);clear hb hk hi)|((with_reducible refine gate_callee (f:=40) rfl ?_);refine goesL_ (some 19) rfl rfl Try.func40 zqk rfl #[.int .i64 z7] rfl zq5 ?_;(with_reducible refine(spec_l20Boole.calls h2 z7 m0 o7 _ A15.out).mono ?_);rintro e w17 ⟨b9d,b9e,rfl,c0,b6,hb⟩;refine⟨_,rfl,?_⟩;have a2h:=zqm (Kd.S_lower c0 (keep_size (w:=w) (g:=g) (row:=none) zq0));have a2i:=zqm (Kd.R_lower b6 (keep_size (w:=w) (g:=g) (row:=none) zq0));replace a4:=zqm (blk_below (g:=b1) (o:= .cells #[.slice none 0 0,.slice none 0 0] 26 (0,0)) (zqe a4.out) hb);replace a0:=zqm (blk_below (g:=a8) (o:= .cells #[.slice none 0 0,.slice none 0 0] 26 (0,0)) (zqe a0.out) hb);have d6:=zqm (IsS61.below zq1 hb);replace HK:=zqm (KeepBut.trans zq0 (KeepBut.of_below hb g none) (.inl rfl));replace HB:=zqm (below_step zq3 hb);clear a2;have a2:=d6;clear d6 hb c0 b6;obtain⟨u4,x8,a9h⟩:=Kd.S_slice a2h.out;subst a9h;have b8e:=c6.out;have b8o:=b3.out;have b8f:=c2.out;have b8p:=a6.out;have b3a:w17.cell? ⟨a8,0,none⟩=some (.slice none 0 0):=(blk_cell a0.out 0).trans rfl;have b3b:w17.cell? ⟨a8,1,none⟩=some (.slice none 0 0):=(blk_cell a0.out 1).trans rfl;have b3n:=blk_frozen a0.out 0;have b3o:=blk_frozen a0.out 1;obtain⟨a0r,a0y,a9i⟩:=Kd.R_slice a2i.out;subst a9i))
     go_meet
     case rel=>exact⟨_,(z8),(m0),(o7),(.slice u4 m0.length x8),(.slice a0r o7.length a0y),H',⟨zq174⟩,⟨by refine zqfS ?_;exact Kd.S_mono (Kd.S_far (p:=⟨a8,1,none⟩) (Kd.S_far (p:=⟨a8,0,none⟩) (Kd.S_types a2h.out a0.out (by decide)) (fun _ hk=>hk.2) (.slice u4 m0.length x8)) (fun _ hk=>hk.2) (.slice a0r o7.length a0y)) (fun _ hk=>hk.1)⟩,⟨Kd.Q_of_R (by refine zqfR ?_;exact Kd.R_mono (Kd.R_far (p:=⟨a8,1,none⟩) (Kd.R_far (p:=⟨a8,0,none⟩) (Kd.R_types a2i.out a0.out (by decide)) (fun _ hk=>hk.2) (.slice u4 m0.length x8)) (fun _ hk=>hk.2) (.slice a0r o7.length a0y)) (fun _ hk=>trivial))⟩,⟨zq32⟩,⟨by refine zqe ?_;refine blk_put (cs:= #[.slice u4 m0.length x8,.slice none 0 0]) ?_ 1 _ rfl;refine zqe ?_;refine blk_put (cs:= #[.slice none 0 0,.slice none 0 0]) ?_ 0 _ rfl;refine zqe ?_;exact a0.out⟩,⟨zq1⟩,⟨zq0⟩,⟨zq3⟩⟩
    ·replace c13:=Bool.eq_false_iff.mpr c13;subst c13;(have H1:(if c3=2 then(spec_l20Logic.j1 h2 a1 c3 (c3==2) s0_0 c5) else(spec_l20Logic.j1 h2 a1 c3 (c3==3) s0_0 c5))=some (r1,r2,r3):=by rw [if_neg (show¬(false=true) by decide)] at H;exact H);clear H;have H:=H1;clear H1;have a0x:=zqm H;clear H
     go_upto_if 20 with (fail)
     go_cut [20] (fun v20 wc=> ∃(kq:Nat) (o1:Bool),v20= .bool o1∧Aside0 (spec_l20Logic.j1 kq a1 c3 o1 s0_0 c5=some (r1,r2,r3))∧Aside0 (kq≤h2)∧Aside0 (wc.heap[b1]? =some (.cells #[(.slice none 0 0),(.slice none 0 0)] 26 (0,0)))∧Aside0 (wc.heap[a8]? =some (.cells #[(.slice none 0 0),(.slice none 0 0)] 26 (0,0)))∧Aside0 (IsS61 w0 wc g s0_0 c5)∧Aside0 (KeepBut w wc g none)∧Aside0 (Below w0.heap.size w0 wc))
     case first=>
      have H:=a0x.out;clear a0x
      by_cases r7:c3=2
      ·rw [if_pos r7] at H;have n6:(c3==2)=true:=beq_iff_eq.mpr r7;have a5v:(c3 !=2)=false:=bne_eq_false_iff_eq.mpr r7;clear r7;(first|rw [n6]|(simp only [i64_w,i32_w];rw [n6])|skip);have H':=zqm H;clear H
       go_wp2
       go_meet
       case rel=>exact⟨_,((c3==2)),zq6,H',⟨zq174⟩,⟨zqe a4.out⟩,⟨zqe a0.out⟩,⟨zq1⟩,⟨zq0⟩,⟨zq3⟩⟩
      ·rw [if_neg r7] at H;have n6:(c3==2)=false:=beq_eq_false_iff_ne.mpr r7;have a5v:(c3 !=2)=true:=bne_iff_ne.mpr r7;(first|rw [n6]|(simp only [i64_w,i32_w];rw [n6])|skip);have H':=zqm H;clear H
       go_wp2
       go_meet
       case rel=>exact⟨_,((c3==3)),zq6,H',⟨zq174⟩,⟨zqe a4.out⟩,⟨zqe a0.out⟩,⟨zq1⟩,⟨zq0⟩,⟨zq3⟩⟩
     case rest=>
      clear a0x;obtain⟨kq,o1,rfl,HA,o3,a4,a0,a2,HK,HB⟩:=hcut
      cases kq with
      |zero=>exact absurd HA.out (by simp [spec_l20Logic.j1])
      |succ b7=>
       have H:=HA.out;clear HA;simp only [spec_l20Logic.j1] at H
       by_cases c25:o1=true
       ·subst c25;(have H1:((spec_l20Boole.f b7 2).bind fun a3a=>((spec_l20Boole.f b7 2).bind fun n1=>((spec_l20Glued.f b7 a3a.1 a3a.2 n1.1 n1.2).bind fun i0=>(spec_l20Logic.j2 b7 a1 s0_0 c5 i0.1 i0.2))))=some (r1,r2,r3):=by rw [if_pos rfl] at H;exact H);clear H;have H:=H1;clear H1;replace H:=Option.bind_eq_some_iff.mp H;obtain⟨⟨s2,s3⟩,a3v,H⟩:=H;replace H:((spec_l20Boole.f b7 2).bind fun n1=>((spec_l20Glued.f b7 s2 s3 n1.1 n1.2).bind fun i0=>(spec_l20Logic.j2 b7 a1 s0_0 c5 i0.1 i0.2)))=some (r1,r2,r3):=H;have A26:=zqm a3v;clear a3v;replace H:=Option.bind_eq_some_iff.mp H;obtain⟨⟨z9,a0a⟩,a3w,H⟩:=H;replace H:((spec_l20Glued.f b7 s2 s3 z9 a0a).bind fun i0=>(spec_l20Logic.j2 b7 a1 s0_0 c5 i0.1 i0.2))=some (r1,r2,r3):=H;have A27:=zqm a3w;clear a3w;replace H:=Option.bind_eq_some_iff.mp H;obtain⟨⟨m1,o8⟩,a3x,H⟩:=H;replace H:(spec_l20Logic.j2 b7 a1 s0_0 c5 m1 o8)=some (r1,r2,r3):=H;have A28:=zqm a3x;clear a3x;have H':=zqm H;clear H
        go_wp2_with (first|((with_reducible refine gate_callee (f:=40) rfl ?_);refine goesL_ (some 23) rfl rfl Try.func40 zqk rfl #[.int .i64 2] rfl zq5 ?_;(with_reducible refine(spec_l20Boole.calls b7 2 s2 s3 _ A26.out).mono ?_);rintro e w29 ⟨b9f,b9g,rfl,c0,b6,hb⟩;refine⟨_,rfl,?_⟩;have g2:=zqm (Kd.S_lower c0 (keep_size (w:=w) (g:=g) (row:=none) zq0));have f5:=zqm (Kd.R_lower b6 (keep_size (w:=w) (g:=g) (row:=none) zq0));replace a4:=zqm (blk_below (g:=b1) (o:= .cells #[.slice none 0 0,.slice none 0 0] 26 (0,0)) (zqe a4.out) hb);replace a0:=zqm (blk_below (g:=a8) (o:= .cells #[.slice none 0 0,.slice none 0 0] 26 (0,0)) (zqe a0.out) hb);have d6:=zqm (IsS61.below zq1 hb);replace HK:=zqm (KeepBut.trans zq0 (KeepBut.of_below hb g none) (.inl rfl));replace HB:=zqm (below_step zq3 hb);clear a2;have a2:=d6;clear d6 hb c0 b6)|((with_reducible refine gate_callee (f:=40) rfl ?_);refine goesL_ (some 24) rfl rfl Try.func40 zqk rfl #[.int .i64 2] rfl zq5 ?_;(with_reducible refine(spec_l20Boole.calls b7 2 z9 a0a _ A27.out).mono ?_);rintro e w30 ⟨b9h,b9i,rfl,c0,b6,hb⟩;refine⟨_,rfl,?_⟩;have c8:=zqm (Kd.S_mono (Kd.S_told (Kd.S_told (Kd.S_old (zqfS g2.out) hb) (Kd.S_base c0)) (Kd.R_base b6)) (fun _ h_=>h_.1));have d0:=zqm (Kd.R_elder' (zqfR f5.out) (Kd.R_base b6) hb);have i9:=zqm (Kd.S_lower (Kd.S_new' (Kd.S_new' c0 (Kd.S_lt (zqfS g2.out))) (Kd.R_lt (zqfR f5.out))) (keep_size (w:=w) (g:=g) (row:=none) zq0));have h6:=zqm (Kd.R_lower (Kd.R_new' b6 (Kd.R_lt (zqfR f5.out))) (keep_size (w:=w) (g:=g) (row:=none) zq0));replace a4:=zqm (blk_below (g:=b1) (o:= .cells #[.slice none 0 0,.slice none 0 0] 26 (0,0)) (zqe a4.out) hb);replace a0:=zqm (blk_below (g:=a8) (o:= .cells #[.slice none 0 0,.slice none 0 0] 26 (0,0)) (zqe a0.out) hb);have g8:=zqm (IsS61.below zq1 hb);replace HK:=zqm (KeepBut.trans zq0 (KeepBut.of_below hb g none) (.inl rfl));replace HB:=zqm (below_step zq3 hb);clear g2 f5 a2;have g2:=c8;have f5:=d0;have a2:=g8;clear c8 d0 g8 hb c0 b6;obtain⟨a7r,a8l,a9j⟩:=Kd.S_slice g2.out;subst a9j;obtain⟨a7s,a8m,a9k⟩:=Kd.R_slice f5.out;subst a9k;obtain⟨a7t,a8n,a9l⟩:=Kd.S_slice i9.out;subst a9l;obtain⟨a7u,a8o,a9m⟩:=Kd.R_slice h6.out;subst a9m)|((with_reducible refine gate_callee (f:=41) rfl ?_);refine goesL_ (some 25) rfl rfl Try.func41 zqk rfl #[.agg #[.slice a7r s2.length a8l,.slice a7s s3.length a8m],.agg #[.slice a7t z9.length a8n,.slice a7u a0a.length a8o]] rfl zq5 ?_;(with_reducible refine(spec_l20Glued.calls b7 _ _ s2 _ _ s3 _ _ z9 _ _ a0a m1 o8 _ ?side1 ?side2 ?side3 ?side4 ?side5 ?side6 ?side7 ?side8 A28.out).mono ?_);(case side1=>repeat(first|exact(Kd.S_reads' g2.out).2.2|(with_reducible refine Kd.C_alloc ?_ _)|(with_reducible refine Kd.C_drewN ?_ _)|(with_reducible refine Kd.C_drew ?_)));(case side2=>exact(Kd.S_reads' g2.out).2.1);(case side3=>repeat(first|exact(Kd.R_reads' f5.out).2.2|(with_reducible refine Kd.C_alloc ?_ _)|(with_reducible refine Kd.C_drewN ?_ _)|(with_reducible refine Kd.C_drew ?_)));(case side4=>exact(Kd.R_reads' f5.out).2.1);(case side5=>repeat(first|exact(Kd.S_reads' i9.out).2.2|(with_reducible refine Kd.C_alloc ?_ _)|(with_reducible refine Kd.C_drewN ?_ _)|(with_reducible refine Kd.C_drew ?_)));(case side6=>exact(Kd.S_reads' i9.out).2.1);(case side7=>repeat(first|exact(Kd.R_reads' h6.out).2.2|(with_reducible refine Kd.C_alloc ?_ _)|(with_reducible refine Kd.C_drewN ?_ _)|(with_reducible refine Kd.C_drew ?_)));(case side8=>exact(Kd.R_reads' h6.out).2.1);rintro e w35 ⟨b9j,b9k,rfl,c0,b6,hb⟩;refine⟨_,rfl,?_⟩;have c8:=zqm (Kd.S_mono (Kd.S_told (Kd.S_told (Kd.S_old (zqfS g2.out) hb) (Kd.S_base c0)) (Kd.R_base b6)) (fun _ h_=>h_.1));have d0:=zqm (Kd.R_elder' (zqfR f5.out) (Kd.R_base b6) hb);have e6:=zqm (Kd.S_mono (Kd.S_told (Kd.S_told (Kd.S_old (zqfS i9.out) hb) (Kd.S_base c0)) (Kd.R_base b6)) (fun _ h_=>h_.1));have f9:=zqm (Kd.R_elder' (zqfR h6.out) (Kd.R_base b6) hb);have a2j:=zqm (Kd.S_lower (Kd.S_new' (Kd.S_new' (Kd.S_new' (Kd.S_new' c0 (Kd.S_lt (zqfS g2.out))) (Kd.R_lt (zqfR f5.out))) (Kd.S_lt (zqfS i9.out))) (Kd.R_lt (zqfR h6.out))) (keep_size (w:=w) (g:=g) (row:=none) zq0));have a2k:=zqm (Kd.R_lower (Kd.R_new' (Kd.R_new' b6 (Kd.R_lt (zqfR f5.out))) (Kd.R_lt (zqfR h6.out))) (keep_size (w:=w) (g:=g) (row:=none) zq0));replace a4:=zqm (blk_below (g:=b1) (o:= .cells #[.slice none 0 0,.slice none 0 0] 26 (0,0)) (zqe a4.out) hb);replace a0:=zqm (blk_below (g:=a8) (o:= .cells #[.slice none 0 0,.slice none 0 0] 26 (0,0)) (zqe a0.out) hb);have l2:=zqm (IsS61.below zq1 hb);replace HK:=zqm (KeepBut.trans zq0 (KeepBut.of_below hb g none) (.inl rfl));replace HB:=zqm (below_step zq3 hb);clear g2 f5 i9 h6 a2;have g2:=c8;have f5:=d0;have i9:=e6;have h6:=f9;have a2:=l2;clear c8 d0 e6 f9 l2 hb c0 b6;obtain⟨u9,y1,a9n⟩:=Kd.S_slice a2j.out;subst a9n;have b8g:=c6.out;have b8q:=b3.out;have b8h:=c2.out;have b8r:=a6.out;have b3c:w35.cell? ⟨a8,0,none⟩=some (.slice none 0 0):=(blk_cell a0.out 0).trans rfl;have b3d:w35.cell? ⟨a8,1,none⟩=some (.slice none 0 0):=(blk_cell a0.out 1).trans rfl;have b3p:=blk_frozen a0.out 0;have b3q:=blk_frozen a0.out 1;obtain⟨a0s,a0z,a9o⟩:=Kd.R_slice a2k.out;subst a9o))
        go_meet
        case rel=>exact⟨_,(c5),(m1),(o8),(.slice u9 m1.length y1),(.slice a0s o8.length a0z),H',⟨zq101⟩,⟨by refine zqfS ?_;exact Kd.S_mono (Kd.S_far (p:=⟨a8,1,none⟩) (Kd.S_far (p:=⟨a8,0,none⟩) (Kd.S_types a2j.out a0.out (by decide)) (fun _ hk=>hk.2) (.slice u9 m1.length y1)) (fun _ hk=>hk.2) (.slice a0s o8.length a0z)) (fun _ hk=>hk.1.1.1.1.1)⟩,⟨Kd.Q_of_R (by refine zqfR ?_;exact Kd.R_mono (Kd.R_far (p:=⟨a8,1,none⟩) (Kd.R_far (p:=⟨a8,0,none⟩) (Kd.R_types a2k.out a0.out (by decide)) (fun _ hk=>hk.2) (.slice u9 m1.length y1)) (fun _ hk=>hk.2) (.slice a0s o8.length a0z)) (fun _ hk=>trivial))⟩,⟨zq32⟩,⟨by refine zqe ?_;refine blk_put (cs:= #[.slice u9 m1.length y1,.slice none 0 0]) ?_ 1 _ rfl;refine zqe ?_;refine blk_put (cs:= #[.slice none 0 0,.slice none 0 0]) ?_ 0 _ rfl;refine zqe ?_;exact a0.out⟩,⟨zq1⟩,⟨zq0⟩,⟨zq3⟩⟩
       ·replace c25:=Bool.eq_false_iff.mpr c25;subst c25;(have H1:(if c3=4 then((spec_l20Boole.f b7 2).bind fun a3b=>((spec_l20Boole.f b7 3).bind fun n2=>((spec_l20Glued.f b7 a3b.1 a3b.2 n2.1 n2.2).bind fun i1=>(spec_l20Logic.j2 b7 a1 s0_0 c5 i1.1 i1.2)))) else(if c3=5 then((spec_l20Boole.f b7 2).bind fun a3c=>((spec_l20Boole.f b7 2).bind fun n3=>((spec_l20Glued.f b7 a3c.1 a3c.2 n3.1 n3.2).bind fun i2=>((spec_l20Boole.f b7 2).bind fun g6=>((spec_l20Glued.f b7 i2.1 i2.2 g6.1 g6.2).bind fun f3=>(spec_l20Logic.j2 b7 a1 s0_0 c5 f3.1 f3.2)))))) else(if c3=6 then((spec_l20Six.f).bind fun a3d=>(spec_l20Logic.j2 b7 a1 s0_0 c5 a3d.1 a3d.2)) else(if c3=7 then((spec_l20Six.f).bind fun a3e=>((spec_l20Boole.f b7 2).bind fun n4=>((spec_l20Glued.f b7 a3e.1 a3e.2 n4.1 n4.2).bind fun i3=>(spec_l20Logic.j2 b7 a1 s0_0 c5 i3.1 i3.2)))) else((spec_l20Pasted.f b7).bind fun a3f=>(spec_l20Logic.j2 b7 a1 s0_0 c5 a3f.1 a3f.2))))))=some (r1,r2,r3):=by rw [if_neg (show¬(false=true) by decide)] at H;exact H);clear H;have H:=H1;clear H1
        by_cases r8:c3=4
        ·rw [if_pos r8] at H;have a5w:(c3==4)=true:=beq_iff_eq.mpr r8;have a5x:(c3 !=4)=false:=bne_eq_false_iff_eq.mpr r8;clear r8;replace H:=Option.bind_eq_some_iff.mp H;obtain⟨⟨s4,s5⟩,a3y,H⟩:=H;replace H:((spec_l20Boole.f b7 3).bind fun n2=>((spec_l20Glued.f b7 s4 s5 n2.1 n2.2).bind fun i1=>(spec_l20Logic.j2 b7 a1 s0_0 c5 i1.1 i1.2)))=some (r1,r2,r3):=H;have A42:=zqm a3y;clear a3y;replace H:=Option.bind_eq_some_iff.mp H;obtain⟨⟨a0b,a0c⟩,a3z,H⟩:=H;replace H:((spec_l20Glued.f b7 s4 s5 a0b a0c).bind fun i1=>(spec_l20Logic.j2 b7 a1 s0_0 c5 i1.1 i1.2))=some (r1,r2,r3):=H;have A43:=zqm a3z;clear a3z;replace H:=Option.bind_eq_some_iff.mp H;obtain⟨⟨m2,o9⟩,a4a,H⟩:=H;replace H:(spec_l20Logic.j2 b7 a1 s0_0 c5 m2 o9)=some (r1,r2,r3):=H;have A44:=zqm a4a;clear a4a;have H':=zqm H;clear H
         go_wp2_with (first|((with_reducible refine gate_callee (f:=40) rfl ?_);refine goesL_ (some 28) rfl rfl Try.func40 zqk rfl #[.int .i64 2] rfl zq5 ?_;(with_reducible refine(spec_l20Boole.calls b7 2 s4 s5 _ A42.out).mono ?_);rintro e w45 ⟨b9l,b9m,rfl,c0,b6,hb⟩;refine⟨_,rfl,?_⟩;have g3:=zqm (Kd.S_lower c0 (keep_size (w:=w) (g:=g) (row:=none) zq0));have f6:=zqm (Kd.R_lower b6 (keep_size (w:=w) (g:=g) (row:=none) zq0));replace a4:=zqm (blk_below (g:=b1) (o:= .cells #[.slice none 0 0,.slice none 0 0] 26 (0,0)) (zqe a4.out) hb);replace a0:=zqm (blk_below (g:=a8) (o:= .cells #[.slice none 0 0,.slice none 0 0] 26 (0,0)) (zqe a0.out) hb);have d6:=zqm (IsS61.below zq1 hb);replace HK:=zqm (KeepBut.trans zq0 (KeepBut.of_below hb g none) (.inl rfl));replace HB:=zqm (below_step zq3 hb);clear a2;have a2:=d6;clear d6 hb c0 b6)|((with_reducible refine gate_callee (f:=40) rfl ?_);refine goesL_ (some 29) rfl rfl Try.func40 zqk rfl #[.int .i64 3] rfl zq5 ?_;(with_reducible refine(spec_l20Boole.calls b7 3 a0b a0c _ A43.out).mono ?_);rintro e w46 ⟨b9n,b9o,rfl,c0,b6,hb⟩;refine⟨_,rfl,?_⟩;have c8:=zqm (Kd.S_mono (Kd.S_told (Kd.S_told (Kd.S_old (zqfS g3.out) hb) (Kd.S_base c0)) (Kd.R_base b6)) (fun _ h_=>h_.1));have d0:=zqm (Kd.R_elder' (zqfR f6.out) (Kd.R_base b6) hb);have j3:=zqm (Kd.S_lower (Kd.S_new' (Kd.S_new' c0 (Kd.S_lt (zqfS g3.out))) (Kd.R_lt (zqfR f6.out))) (keep_size (w:=w) (g:=g) (row:=none) zq0));have h7:=zqm (Kd.R_lower (Kd.R_new' b6 (Kd.R_lt (zqfR f6.out))) (keep_size (w:=w) (g:=g) (row:=none) zq0));replace a4:=zqm (blk_below (g:=b1) (o:= .cells #[.slice none 0 0,.slice none 0 0] 26 (0,0)) (zqe a4.out) hb);replace a0:=zqm (blk_below (g:=a8) (o:= .cells #[.slice none 0 0,.slice none 0 0] 26 (0,0)) (zqe a0.out) hb);have g8:=zqm (IsS61.below zq1 hb);replace HK:=zqm (KeepBut.trans zq0 (KeepBut.of_below hb g none) (.inl rfl));replace HB:=zqm (below_step zq3 hb);clear g3 f6 a2;have g3:=c8;have f6:=d0;have a2:=g8;clear c8 d0 g8 hb c0 b6;obtain⟨a7v,a8p,a9p⟩:=Kd.S_slice g3.out;subst a9p;obtain⟨a7w,a8q,a9q⟩:=Kd.R_slice f6.out;subst a9q;obtain⟨a7x,a8r,a9r⟩:=Kd.S_slice j3.out;subst a9r;obtain⟨a7y,a8s,a9s⟩:=Kd.R_slice h7.out;subst a9s)|((with_reducible refine gate_callee (f:=41) rfl ?_);refine goesL_ (some 30) rfl rfl Try.func41 zqk rfl #[.agg #[.slice a7v s4.length a8p,.slice a7w s5.length a8q],.agg #[.slice a7x a0b.length a8r,.slice a7y a0c.length a8s]] rfl zq5 ?_;(with_reducible refine(spec_l20Glued.calls b7 _ _ s4 _ _ s5 _ _ a0b _ _ a0c m2 o9 _ ?side1 ?side2 ?side3 ?side4 ?side5 ?side6 ?side7 ?side8 A44.out).mono ?_);(case side1=>repeat(first|exact(Kd.S_reads' g3.out).2.2|(with_reducible refine Kd.C_alloc ?_ _)|(with_reducible refine Kd.C_drewN ?_ _)|(with_reducible refine Kd.C_drew ?_)));(case side2=>exact(Kd.S_reads' g3.out).2.1);(case side3=>repeat(first|exact(Kd.R_reads' f6.out).2.2|(with_reducible refine Kd.C_alloc ?_ _)|(with_reducible refine Kd.C_drewN ?_ _)|(with_reducible refine Kd.C_drew ?_)));(case side4=>exact(Kd.R_reads' f6.out).2.1);(case side5=>repeat(first|exact(Kd.S_reads' j3.out).2.2|(with_reducible refine Kd.C_alloc ?_ _)|(with_reducible refine Kd.C_drewN ?_ _)|(with_reducible refine Kd.C_drew ?_)));(case side6=>exact(Kd.S_reads' j3.out).2.1);(case side7=>repeat(first|exact(Kd.R_reads' h7.out).2.2|(with_reducible refine Kd.C_alloc ?_ _)|(with_reducible refine Kd.C_drewN ?_ _)|(with_reducible refine Kd.C_drew ?_)));(case side8=>exact(Kd.R_reads' h7.out).2.1);rintro e w51 ⟨b9p,b9q,rfl,c0,b6,hb⟩;refine⟨_,rfl,?_⟩;have c8:=zqm (Kd.S_mono (Kd.S_told (Kd.S_told (Kd.S_old (zqfS g3.out) hb) (Kd.S_base c0)) (Kd.R_base b6)) (fun _ h_=>h_.1));have d0:=zqm (Kd.R_elder' (zqfR f6.out) (Kd.R_base b6) hb);have e6:=zqm (Kd.S_mono (Kd.S_told (Kd.S_told (Kd.S_old (zqfS j3.out) hb) (Kd.S_base c0)) (Kd.R_base b6)) (fun _ h_=>h_.1));have f9:=zqm (Kd.R_elder' (zqfR h7.out) (Kd.R_base b6) hb);have a2l:=zqm (Kd.S_lower (Kd.S_new' (Kd.S_new' (Kd.S_new' (Kd.S_new' c0 (Kd.S_lt (zqfS g3.out))) (Kd.R_lt (zqfR f6.out))) (Kd.S_lt (zqfS j3.out))) (Kd.R_lt (zqfR h7.out))) (keep_size (w:=w) (g:=g) (row:=none) zq0));have a2m:=zqm (Kd.R_lower (Kd.R_new' (Kd.R_new' b6 (Kd.R_lt (zqfR f6.out))) (Kd.R_lt (zqfR h7.out))) (keep_size (w:=w) (g:=g) (row:=none) zq0));replace a4:=zqm (blk_below (g:=b1) (o:= .cells #[.slice none 0 0,.slice none 0 0] 26 (0,0)) (zqe a4.out) hb);replace a0:=zqm (blk_below (g:=a8) (o:= .cells #[.slice none 0 0,.slice none 0 0] 26 (0,0)) (zqe a0.out) hb);have l2:=zqm (IsS61.below zq1 hb);replace HK:=zqm (KeepBut.trans zq0 (KeepBut.of_below hb g none) (.inl rfl));replace HB:=zqm (below_step zq3 hb);clear g3 f6 j3 h7 a2;have g3:=c8;have f6:=d0;have j3:=e6;have h7:=f9;have a2:=l2;clear c8 d0 e6 f9 l2 hb c0 b6;obtain⟨v0,y2,a9t⟩:=Kd.S_slice a2l.out;subst a9t;have b8i:=c6.out;have b8s:=b3.out;have b8j:=c2.out;have b8t:=a6.out;have b3e:w51.cell? ⟨a8,0,none⟩=some (.slice none 0 0):=(blk_cell a0.out 0).trans rfl;have b3f:w51.cell? ⟨a8,1,none⟩=some (.slice none 0 0):=(blk_cell a0.out 1).trans rfl;have b3r:=blk_frozen a0.out 0;have b3s:=blk_frozen a0.out 1;obtain⟨a0t,a1a,a9u⟩:=Kd.R_slice a2m.out;subst a9u))
         go_meet
         case rel=>exact⟨_,(c5),(m2),(o9),(.slice v0 m2.length y2),(.slice a0t o9.length a1a),H',⟨zq101⟩,⟨by refine zqfS ?_;exact Kd.S_mono (Kd.S_far (p:=⟨a8,1,none⟩) (Kd.S_far (p:=⟨a8,0,none⟩) (Kd.S_types a2l.out a0.out (by decide)) (fun _ hk=>hk.2) (.slice v0 m2.length y2)) (fun _ hk=>hk.2) (.slice a0t o9.length a1a)) (fun _ hk=>hk.1.1.1.1.1)⟩,⟨Kd.Q_of_R (by refine zqfR ?_;exact Kd.R_mono (Kd.R_far (p:=⟨a8,1,none⟩) (Kd.R_far (p:=⟨a8,0,none⟩) (Kd.R_types a2m.out a0.out (by decide)) (fun _ hk=>hk.2) (.slice v0 m2.length y2)) (fun _ hk=>hk.2) (.slice a0t o9.length a1a)) (fun _ hk=>trivial))⟩,⟨zq32⟩,⟨by refine zqe ?_;refine blk_put (cs:= #[.slice v0 m2.length y2,.slice none 0 0]) ?_ 1 _ rfl;refine zqe ?_;refine blk_put (cs:= #[.slice none 0 0,.slice none 0 0]) ?_ 0 _ rfl;refine zqe ?_;exact a0.out⟩,⟨zq1⟩,⟨zq0⟩,⟨zq3⟩⟩
        ·rw [if_neg r8] at H;have a5w:(c3==4)=false:=beq_eq_false_iff_ne.mpr r8;have a5x:(c3 !=4)=true:=bne_iff_ne.mpr r8
         by_cases r9:c3=5
         ·rw [if_pos r9] at H;have a5y:(c3==5)=true:=beq_iff_eq.mpr r9;have a5z:(c3 !=5)=false:=bne_eq_false_iff_eq.mpr r9;clear r9;replace H:=Option.bind_eq_some_iff.mp H;obtain⟨⟨s6,s7⟩,a4b,H⟩:=H;replace H:((spec_l20Boole.f b7 2).bind fun n3=>((spec_l20Glued.f b7 s6 s7 n3.1 n3.2).bind fun i2=>((spec_l20Boole.f b7 2).bind fun g6=>((spec_l20Glued.f b7 i2.1 i2.2 g6.1 g6.2).bind fun f3=>(spec_l20Logic.j2 b7 a1 s0_0 c5 f3.1 f3.2)))))=some (r1,r2,r3):=H;have A58:=zqm a4b;clear a4b;replace H:=Option.bind_eq_some_iff.mp H;obtain⟨⟨a0d,a0e⟩,a4c,H⟩:=H;replace H:((spec_l20Glued.f b7 s6 s7 a0d a0e).bind fun i2=>((spec_l20Boole.f b7 2).bind fun g6=>((spec_l20Glued.f b7 i2.1 i2.2 g6.1 g6.2).bind fun f3=>(spec_l20Logic.j2 b7 a1 s0_0 c5 f3.1 f3.2))))=some (r1,r2,r3):=H;have A59:=zqm a4c;clear a4c;replace H:=Option.bind_eq_some_iff.mp H;obtain⟨⟨s8,s9⟩,a4d,H⟩:=H;replace H:((spec_l20Boole.f b7 2).bind fun g6=>((spec_l20Glued.f b7 s8 s9 g6.1 g6.2).bind fun f3=>(spec_l20Logic.j2 b7 a1 s0_0 c5 f3.1 f3.2)))=some (r1,r2,r3):=H;have A60:=zqm a4d;clear a4d;replace H:=Option.bind_eq_some_iff.mp H;obtain⟨⟨a0f,a0g⟩,a4e,H⟩:=H;replace H:((spec_l20Glued.f b7 s8 s9 a0f a0g).bind fun f3=>(spec_l20Logic.j2 b7 a1 s0_0 c5 f3.1 f3.2))=some (r1,r2,r3):=H;have A61:=zqm a4e;clear a4e;replace H:=Option.bind_eq_some_iff.mp H;obtain⟨⟨m3,p0⟩,a4f,H⟩:=H;replace H:(spec_l20Logic.j2 b7 a1 s0_0 c5 m3 p0)=some (r1,r2,r3):=H;have A62:=zqm a4f;clear a4f;have H':=zqm H;clear H
          go_wp2_with (first|((with_reducible refine gate_callee (f:=40) rfl ?_);refine goesL_ (some 33) rfl rfl Try.func40 zqk rfl #[.int .i64 2] rfl zq5 ?_;(with_reducible refine(spec_l20Boole.calls b7 2 s6 s7 _ A58.out).mono ?_);rintro e w63 ⟨b9r,b9s,rfl,c0,b6,hb⟩;refine⟨_,rfl,?_⟩;have d7:=zqm (Kd.S_lower c0 (keep_size (w:=w) (g:=g) (row:=none) zq0));have d2:=zqm (Kd.R_lower b6 (keep_size (w:=w) (g:=g) (row:=none) zq0));replace a4:=zqm (blk_below (g:=b1) (o:= .cells #[.slice none 0 0,.slice none 0 0] 26 (0,0)) (zqe a4.out) hb);replace a0:=zqm (blk_below (g:=a8) (o:= .cells #[.slice none 0 0,.slice none 0 0] 26 (0,0)) (zqe a0.out) hb);have d6:=zqm (IsS61.below zq1 hb);replace HK:=zqm (KeepBut.trans zq0 (KeepBut.of_below hb g none) (.inl rfl));replace HB:=zqm (below_step zq3 hb);clear a2;have a2:=d6;clear d6 hb c0 b6)|((with_reducible refine gate_callee (f:=40) rfl ?_);refine goesL_ (some 34) rfl rfl Try.func40 zqk rfl #[.int .i64 2] rfl zq5 ?_;(with_reducible refine(spec_l20Boole.calls b7 2 a0d a0e _ A59.out).mono ?_);rintro e w64 ⟨b9t,b9u,rfl,c0,b6,hb⟩;refine⟨_,rfl,?_⟩;have c8:=zqm (Kd.S_mono (Kd.S_told (Kd.S_told (Kd.S_old (zqfS d7.out) hb) (Kd.S_base c0)) (Kd.R_base b6)) (fun _ h_=>h_.1));have d0:=zqm (Kd.R_elder' (zqfR d2.out) (Kd.R_base b6) hb);have e9:=zqm (Kd.S_lower (Kd.S_new' (Kd.S_new' c0 (Kd.S_lt (zqfS d7.out))) (Kd.R_lt (zqfR d2.out))) (keep_size (w:=w) (g:=g) (row:=none) zq0));have d8:=zqm (Kd.R_lower (Kd.R_new' b6 (Kd.R_lt (zqfR d2.out))) (keep_size (w:=w) (g:=g) (row:=none) zq0));replace a4:=zqm (blk_below (g:=b1) (o:= .cells #[.slice none 0 0,.slice none 0 0] 26 (0,0)) (zqe a4.out) hb);replace a0:=zqm (blk_below (g:=a8) (o:= .cells #[.slice none 0 0,.slice none 0 0] 26 (0,0)) (zqe a0.out) hb);have g8:=zqm (IsS61.below zq1 hb);replace HK:=zqm (KeepBut.trans zq0 (KeepBut.of_below hb g none) (.inl rfl));replace HB:=zqm (below_step zq3 hb);clear d7 d2 a2;have d7:=c8;have d2:=d0;have a2:=g8;clear c8 d0 g8 hb c0 b6;obtain⟨a7z,a8t,a9v⟩:=Kd.S_slice d7.out;subst a9v;obtain⟨a8a,a8u,a9w⟩:=Kd.R_slice d2.out;subst a9w;obtain⟨a8b,a8v,a9x⟩:=Kd.S_slice e9.out;subst a9x;obtain⟨a8c,a8w,a9y⟩:=Kd.R_slice d8.out;subst a9y)|((with_reducible refine gate_callee (f:=41) rfl ?_);refine goesL_ (some 35) rfl rfl Try.func41 zqk rfl #[.agg #[.slice a7z s6.length a8t,.slice a8a s7.length a8u],.agg #[.slice a8b a0d.length a8v,.slice a8c a0e.length a8w]] rfl zq5 ?_;(with_reducible refine(spec_l20Glued.calls b7 _ _ s6 _ _ s7 _ _ a0d _ _ a0e s8 s9 _ ?side1 ?side2 ?side3 ?side4 ?side5 ?side6 ?side7 ?side8 A60.out).mono ?_);(case side1=>repeat(first|exact(Kd.S_reads' d7.out).2.2|(with_reducible refine Kd.C_alloc ?_ _)|(with_reducible refine Kd.C_drewN ?_ _)|(with_reducible refine Kd.C_drew ?_)));(case side2=>exact(Kd.S_reads' d7.out).2.1);(case side3=>repeat(first|exact(Kd.R_reads' d2.out).2.2|(with_reducible refine Kd.C_alloc ?_ _)|(with_reducible refine Kd.C_drewN ?_ _)|(with_reducible refine Kd.C_drew ?_)));(case side4=>exact(Kd.R_reads' d2.out).2.1);(case side5=>repeat(first|exact(Kd.S_reads' e9.out).2.2|(with_reducible refine Kd.C_alloc ?_ _)|(with_reducible refine Kd.C_drewN ?_ _)|(with_reducible refine Kd.C_drew ?_)));(case side6=>exact(Kd.S_reads' e9.out).2.1);(case side7=>repeat(first|exact(Kd.R_reads' d8.out).2.2|(with_reducible refine Kd.C_alloc ?_ _)|(with_reducible refine Kd.C_drewN ?_ _)|(with_reducible refine Kd.C_drew ?_)));(case side8=>exact(Kd.R_reads' d8.out).2.1);rintro e w69 ⟨b9v,b9w,rfl,c0,b6,hb⟩;refine⟨_,rfl,?_⟩;have c8:=zqm (Kd.S_mono (Kd.S_told (Kd.S_told (Kd.S_old (zqfS d7.out) hb) (Kd.S_base c0)) (Kd.R_base b6)) (fun _ h_=>h_.1));have d0:=zqm (Kd.R_elder' (zqfR d2.out) (Kd.R_base b6) hb);have e6:=zqm (Kd.S_mono (Kd.S_told (Kd.S_told (Kd.S_old (zqfS e9.out) hb) (Kd.S_base c0)) (Kd.R_base b6)) (fun _ h_=>h_.1));have f9:=zqm (Kd.R_elder' (zqfR d8.out) (Kd.R_base b6) hb);have g4:=zqm (Kd.S_lower (Kd.S_new' (Kd.S_new' (Kd.S_new' (Kd.S_new' c0 (Kd.S_lt (zqfS d7.out))) (Kd.R_lt (zqfR d2.out))) (Kd.S_lt (zqfS e9.out))) (Kd.R_lt (zqfR d8.out))) (keep_size (w:=w) (g:=g) (row:=none) zq0));have f7:=zqm (Kd.R_lower (Kd.R_new' (Kd.R_new' b6 (Kd.R_lt (zqfR d2.out))) (Kd.R_lt (zqfR d8.out))) (keep_size (w:=w) (g:=g) (row:=none) zq0));replace a4:=zqm (blk_below (g:=b1) (o:= .cells #[.slice none 0 0,.slice none 0 0] 26 (0,0)) (zqe a4.out) hb);replace a0:=zqm (blk_below (g:=a8) (o:= .cells #[.slice none 0 0,.slice none 0 0] 26 (0,0)) (zqe a0.out) hb);have l2:=zqm (IsS61.below zq1 hb);replace HK:=zqm (KeepBut.trans zq0 (KeepBut.of_below hb g none) (.inl rfl));replace HB:=zqm (below_step zq3 hb);clear d7 d2 e9 d8 a2;have d7:=c8;have d2:=d0;have e9:=e6;have d8:=f9;have a2:=l2;clear c8 d0 e6 f9 l2 hb c0 b6)|((with_reducible refine gate_callee (f:=40) rfl ?_);refine goesL_ (some 36) rfl rfl Try.func40 zqk rfl #[.int .i64 2] rfl zq5 ?_;(with_reducible refine(spec_l20Boole.calls b7 2 a0f a0g _ A61.out).mono ?_);rintro e w70 ⟨b9x,b9y,rfl,c0,b6,hb⟩;refine⟨_,rfl,?_⟩;have c8:=zqm (Kd.S_mono (Kd.S_told (Kd.S_told (Kd.S_old (zqfS d7.out) hb) (Kd.S_base c0)) (Kd.R_base b6)) (fun _ h_=>h_.1));have d0:=zqm (Kd.R_elder' (zqfR d2.out) (Kd.R_base b6) hb);have e6:=zqm (Kd.S_mono (Kd.S_told (Kd.S_told (Kd.S_old (zqfS e9.out) hb) (Kd.S_base c0)) (Kd.R_base b6)) (fun _ h_=>h_.1));have f9:=zqm (Kd.R_elder' (zqfR d8.out) (Kd.R_base b6) hb);have d6:=zqm (Kd.S_mono (Kd.S_told (Kd.S_told (Kd.S_old (zqfS g4.out) hb) (Kd.S_base c0)) (Kd.R_base b6)) (fun _ h_=>h_.1));have k6:=zqm (Kd.R_elder' (zqfR f7.out) (Kd.R_base b6) hb);have j4:=zqm (Kd.S_lower (Kd.S_new' (Kd.S_new' (Kd.S_new' (Kd.S_new' (Kd.S_new' (Kd.S_new' c0 (Kd.S_lt (zqfS d7.out))) (Kd.R_lt (zqfR d2.out))) (Kd.S_lt (zqfS e9.out))) (Kd.R_lt (zqfR d8.out))) (Kd.S_lt (zqfS g4.out))) (Kd.R_lt (zqfR f7.out))) (keep_size (w:=w) (g:=g) (row:=none) zq0));have h8:=zqm (Kd.R_lower (Kd.R_new' (Kd.R_new' (Kd.R_new' b6 (Kd.R_lt (zqfR d2.out))) (Kd.R_lt (zqfR d8.out))) (Kd.R_lt (zqfR f7.out))) (keep_size (w:=w) (g:=g) (row:=none) zq0));replace a4:=zqm (blk_below (g:=b1) (o:= .cells #[.slice none 0 0,.slice none 0 0] 26 (0,0)) (zqe a4.out) hb);replace a0:=zqm (blk_below (g:=a8) (o:= .cells #[.slice none 0 0,.slice none 0 0] 26 (0,0)) (zqe a0.out) hb);have a4y:=zqm (IsS61.below zq1 hb);replace HK:=zqm (KeepBut.trans zq0 (KeepBut.of_below hb g none) (.inl rfl));replace HB:=zqm (below_step zq3 hb);clear d7 d2 e9 d8 g4 f7 a2;have d7:=c8;have d2:=d0;have e9:=e6;have d8:=f9;have g4:=d6;have f7:=k6;have a2:=a4y;clear c8 d0 e6 f9 d6 k6 a4y hb c0 b6;obtain⟨a8d,a8x,a9z⟩:=Kd.S_slice g4.out;subst a9z;obtain⟨a8e,a8y,b0a⟩:=Kd.R_slice f7.out;subst b0a;obtain⟨a8f,a8z,b0b⟩:=Kd.S_slice j4.out;subst b0b;obtain⟨a8g,a9a,b0c⟩:=Kd.R_slice h8.out;subst b0c)|((with_reducible refine gate_callee (f:=41) rfl ?_);refine goesL_ (some 37) rfl rfl Try.func41 zqk rfl #[.agg #[.slice a8d s8.length a8x,.slice a8e s9.length a8y],.agg #[.slice a8f a0f.length a8z,.slice a8g a0g.length a9a]] rfl zq5 ?_;(with_reducible refine(spec_l20Glued.calls b7 _ _ s8 _ _ s9 _ _ a0f _ _ a0g m3 p0 _ ?side1 ?side2 ?side3 ?side4 ?side5 ?side6 ?side7 ?side8 A62.out).mono ?_);(case side1=>repeat(first|exact(Kd.S_reads' g4.out).2.2|(with_reducible refine Kd.C_alloc ?_ _)|(with_reducible refine Kd.C_drewN ?_ _)|(with_reducible refine Kd.C_drew ?_)));(case side2=>exact(Kd.S_reads' g4.out).2.1);(case side3=>repeat(first|exact(Kd.R_reads' f7.out).2.2|(with_reducible refine Kd.C_alloc ?_ _)|(with_reducible refine Kd.C_drewN ?_ _)|(with_reducible refine Kd.C_drew ?_)));(case side4=>exact(Kd.R_reads' f7.out).2.1);(case side5=>repeat(first|exact(Kd.S_reads' j4.out).2.2|(with_reducible refine Kd.C_alloc ?_ _)|(with_reducible refine Kd.C_drewN ?_ _)|(with_reducible refine Kd.C_drew ?_)));(case side6=>exact(Kd.S_reads' j4.out).2.1);(case side7=>repeat(first|exact(Kd.R_reads' h8.out).2.2|(with_reducible refine Kd.C_alloc ?_ _)|(with_reducible refine Kd.C_drewN ?_ _)|(with_reducible refine Kd.C_drew ?_)));(case side8=>exact(Kd.R_reads' h8.out).2.1);rintro e w75 ⟨b9z,c0a,rfl,c0,b6,hb⟩;refine⟨_,rfl,?_⟩;have c8:=zqm (Kd.S_mono (Kd.S_told (Kd.S_told (Kd.S_old (zqfS d7.out) hb) (Kd.S_base c0)) (Kd.R_base b6)) (fun _ h_=>h_.1));have d0:=zqm (Kd.R_elder' (zqfR d2.out) (Kd.R_base b6) hb);have e6:=zqm (Kd.S_mono (Kd.S_told (Kd.S_told (Kd.S_old (zqfS e9.out) hb) (Kd.S_base c0)) (Kd.R_base b6)) (fun _ h_=>h_.1));have f9:=zqm (Kd.R_elder' (zqfR d8.out) (Kd.R_base b6) hb);have d6:=zqm (Kd.S_mono (Kd.S_told (Kd.S_told (Kd.S_old (zqfS g4.out) hb) (Kd.S_base c0)) (Kd.R_base b6)) (fun _ h_=>h_.1));have k6:=zqm (Kd.R_elder' (zqfR f7.out) (Kd.R_base b6) hb);have g8:=zqm (Kd.S_mono (Kd.S_told (Kd.S_told (Kd.S_old (zqfS j4.out) hb) (Kd.S_base c0)) (Kd.R_base b6)) (fun _ h_=>h_.1));have n7_:=zqm (Kd.R_elder' (zqfR h8.out) (Kd.R_base b6) hb);have a2n:=zqm (Kd.S_lower (Kd.S_new' (Kd.S_new' (Kd.S_new' (Kd.S_new' (Kd.S_new' (Kd.S_new' (Kd.S_new' (Kd.S_new' c0 (Kd.S_lt (zqfS d7.out))) (Kd.R_lt (zqfR d2.out))) (Kd.S_lt (zqfS e9.out))) (Kd.R_lt (zqfR d8.out))) (Kd.S_lt (zqfS g4.out))) (Kd.R_lt (zqfR f7.out))) (Kd.S_lt (zqfS j4.out))) (Kd.R_lt (zqfR h8.out))) (keep_size (w:=w) (g:=g) (row:=none) zq0));have a2o:=zqm (Kd.R_lower (Kd.R_new' (Kd.R_new' (Kd.R_new' (Kd.R_new' b6 (Kd.R_lt (zqfR d2.out))) (Kd.R_lt (zqfR d8.out))) (Kd.R_lt (zqfR f7.out))) (Kd.R_lt (zqfR h8.out))) (keep_size (w:=w) (g:=g) (row:=none) zq0));replace a4:=zqm (blk_below (g:=b1) (o:= .cells #[.slice none 0 0,.slice none 0 0] 26 (0,0)) (zqe a4.out) hb);replace a0:=zqm (blk_below (g:=a8) (o:= .cells #[.slice none 0 0,.slice none 0 0] 26 (0,0)) (zqe a0.out) hb);have a4z:=zqm (IsS61.below zq1 hb);replace HK:=zqm (KeepBut.trans zq0 (KeepBut.of_below hb g none) (.inl rfl));replace HB:=zqm (below_step zq3 hb);clear d7 d2 e9 d8 g4 f7 j4 h8 a2;have d7:=c8;have d2:=d0;have e9:=e6;have d8:=f9;have g4:=d6;have f7:=k6;have j4:=g8;have h8:=n7_;have a2:=a4z;clear c8 d0 e6 f9 d6 k6 g8 n7_ a4z hb c0 b6;obtain⟨v2,y3,b0d⟩:=Kd.S_slice a2n.out;subst b0d;have b8k:=c6.out;have b8u:=b3.out;have b8l:=c2.out;have b8v:=a6.out;have b3g:w75.cell? ⟨a8,0,none⟩=some (.slice none 0 0):=(blk_cell a0.out 0).trans rfl;have b3h:w75.cell? ⟨a8,1,none⟩=some (.slice none 0 0):=(blk_cell a0.out 1).trans rfl;have b3t:=blk_frozen a0.out 0;have b3u:=blk_frozen a0.out 1;obtain⟨a0u,a1b,b0e⟩:=Kd.R_slice a2o.out;subst b0e))
          go_meet
          case rel=>exact⟨_,(c5),(m3),(p0),(.slice v2 m3.length y3),(.slice a0u p0.length a1b),H',⟨zq101⟩,⟨by refine zqfS ?_;exact Kd.S_mono (Kd.S_far (p:=⟨a8,1,none⟩) (Kd.S_far (p:=⟨a8,0,none⟩) (Kd.S_types a2n.out a0.out (by decide)) (fun _ hk=>hk.2) (.slice v2 m3.length y3)) (fun _ hk=>hk.2) (.slice a0u p0.length a1b)) (fun _ hk=>hk.1.1.1.1.1.1.1.1.1)⟩,⟨Kd.Q_of_R (by refine zqfR ?_;exact Kd.R_mono (Kd.R_far (p:=⟨a8,1,none⟩) (Kd.R_far (p:=⟨a8,0,none⟩) (Kd.R_types a2o.out a0.out (by decide)) (fun _ hk=>hk.2) (.slice v2 m3.length y3)) (fun _ hk=>hk.2) (.slice a0u p0.length a1b)) (fun _ hk=>trivial))⟩,⟨zq32⟩,⟨by refine zqe ?_;refine blk_put (cs:= #[.slice v2 m3.length y3,.slice none 0 0]) ?_ 1 _ rfl;refine zqe ?_;refine blk_put (cs:= #[.slice none 0 0,.slice none 0 0]) ?_ 0 _ rfl;refine zqe ?_;exact a0.out⟩,⟨zq1⟩,⟨zq0⟩,⟨zq3⟩⟩
         ·rw [if_neg r9] at H;have a5y:(c3==5)=false:=beq_eq_false_iff_ne.mpr r9;have a5z:(c3 !=5)=true:=bne_iff_ne.mpr r9
          by_cases s0:c3=6
          ·rw [if_pos s0] at H;have a6a:(c3==6)=true:=beq_iff_eq.mpr s0;have a6b:(c3 !=6)=false:=bne_eq_false_iff_eq.mpr s0;clear s0;replace H:=Option.bind_eq_some_iff.mp H;obtain⟨⟨m4,p1⟩,a4g,H⟩:=H;replace H:(spec_l20Logic.j2 b7 a1 s0_0 c5 m4 p1)=some (r1,r2,r3):=H;have A82:=zqm a4g;clear a4g;have H':=zqm H;clear H
           go_wp2_with (first|((with_reducible refine gate_callee (f:=42) rfl ?_);refine goesL_ (some 40) rfl rfl Try.func42 zqk rfl #[] rfl zq5 ?_;(with_reducible refine(spec_l20Six.calls m4 p1 _ A82.out).mono ?_);rintro e w83 ⟨c0b,c0c,rfl,c0,b6,hb⟩;refine⟨_,rfl,?_⟩;have a2p:=zqm (Kd.S_lower c0 (keep_size (w:=w) (g:=g) (row:=none) zq0));have a2q:=zqm (Kd.R_lower b6 (keep_size (w:=w) (g:=g) (row:=none) zq0));replace a4:=zqm (blk_below (g:=b1) (o:= .cells #[.slice none 0 0,.slice none 0 0] 26 (0,0)) (zqe a4.out) hb);replace a0:=zqm (blk_below (g:=a8) (o:= .cells #[.slice none 0 0,.slice none 0 0] 26 (0,0)) (zqe a0.out) hb);have d6:=zqm (IsS61.below zq1 hb);replace HK:=zqm (KeepBut.trans zq0 (KeepBut.of_below hb g none) (.inl rfl));replace HB:=zqm (below_step zq3 hb);clear a2;have a2:=d6;clear d6 hb c0 b6;obtain⟨v3,y4,b0f⟩:=Kd.S_slice a2p.out;subst b0f;have b8m:=c6.out;have b8w:=b3.out;have b8n:=c2.out;have b8x:=a6.out;have b3i:w83.cell? ⟨a8,0,none⟩=some (.slice none 0 0):=(blk_cell a0.out 0).trans rfl;have b3j:w83.cell? ⟨a8,1,none⟩=some (.slice none 0 0):=(blk_cell a0.out 1).trans rfl;have b3v:=blk_frozen a0.out 0;have b3w:=blk_frozen a0.out 1;obtain⟨a0v,a1c,b0g⟩:=Kd.R_slice a2q.out;subst b0g))
           go_meet
           case rel=>exact⟨_,(c5),(m4),(p1),(.slice v3 m4.length y4),(.slice a0v p1.length a1c),H',⟨zq101⟩,⟨by refine zqfS ?_;exact Kd.S_mono (Kd.S_far (p:=⟨a8,1,none⟩) (Kd.S_far (p:=⟨a8,0,none⟩) (Kd.S_types a2p.out a0.out (by decide)) (fun _ hk=>hk.2) (.slice v3 m4.length y4)) (fun _ hk=>hk.2) (.slice a0v p1.length a1c)) (fun _ hk=>hk.1)⟩,⟨Kd.Q_of_R (by refine zqfR ?_;exact Kd.R_mono (Kd.R_far (p:=⟨a8,1,none⟩) (Kd.R_far (p:=⟨a8,0,none⟩) (Kd.R_types a2q.out a0.out (by decide)) (fun _ hk=>hk.2) (.slice v3 m4.length y4)) (fun _ hk=>hk.2) (.slice a0v p1.length a1c)) (fun _ hk=>trivial))⟩,⟨zq32⟩,⟨by refine zqe ?_;refine blk_put (cs:= #[.slice v3 m4.length y4,.slice none 0 0]) ?_ 1 _ rfl;refine zqe ?_;refine blk_put (cs:= #[.slice none 0 0,.slice none 0 0]) ?_ 0 _ rfl;refine zqe ?_;exact a0.out⟩,⟨zq1⟩,⟨zq0⟩,⟨zq3⟩⟩
          ·rw [if_neg s0] at H;have a6a:(c3==6)=false:=beq_eq_false_iff_ne.mpr s0;have a6b:(c3 !=6)=true:=bne_iff_ne.mpr s0
           by_cases s1:c3=7
           ·rw [if_pos s1] at H;have a6c:(c3==7)=true:=beq_iff_eq.mpr s1;have a6d:(c3 !=7)=false:=bne_eq_false_iff_eq.mpr s1;clear s1;replace H:=Option.bind_eq_some_iff.mp H;obtain⟨⟨t0,t1⟩,a4h,H⟩:=H;replace H:((spec_l20Boole.f b7 2).bind fun n4=>((spec_l20Glued.f b7 t0 t1 n4.1 n4.2).bind fun i3=>(spec_l20Logic.j2 b7 a1 s0_0 c5 i3.1 i3.2)))=some (r1,r2,r3):=H;have A90:=zqm a4h;clear a4h;replace H:=Option.bind_eq_some_iff.mp H;obtain⟨⟨a0h,a0i⟩,a4i,H⟩:=H;replace H:((spec_l20Glued.f b7 t0 t1 a0h a0i).bind fun i3=>(spec_l20Logic.j2 b7 a1 s0_0 c5 i3.1 i3.2))=some (r1,r2,r3):=H;have A91:=zqm a4i;clear a4i;replace H:=Option.bind_eq_some_iff.mp H;obtain⟨⟨m5,p2⟩,a4j,H⟩:=H;replace H:(spec_l20Logic.j2 b7 a1 s0_0 c5 m5 p2)=some (r1,r2,r3):=H;have A92:=zqm a4j;clear a4j;have H':=zqm H;clear H
            go_wp2_with (first|((with_reducible refine gate_callee (f:=42) rfl ?_);refine goesL_ (some 43) rfl rfl Try.func42 zqk rfl #[] rfl zq5 ?_;(with_reducible refine(spec_l20Six.calls t0 t1 _ A90.out).mono ?_);rintro e w93 ⟨c0d,c0e,rfl,c0,b6,hb⟩;refine⟨_,rfl,?_⟩;have g5:=zqm (Kd.S_lower c0 (keep_size (w:=w) (g:=g) (row:=none) zq0));have f8:=zqm (Kd.R_lower b6 (keep_size (w:=w) (g:=g) (row:=none) zq0));replace a4:=zqm (blk_below (g:=b1) (o:= .cells #[.slice none 0 0,.slice none 0 0] 26 (0,0)) (zqe a4.out) hb);replace a0:=zqm (blk_below (g:=a8) (o:= .cells #[.slice none 0 0,.slice none 0 0] 26 (0,0)) (zqe a0.out) hb);have d6:=zqm (IsS61.below zq1 hb);replace HK:=zqm (KeepBut.trans zq0 (KeepBut.of_below hb g none) (.inl rfl));replace HB:=zqm (below_step zq3 hb);clear a2;have a2:=d6;clear d6 hb c0 b6)|((with_reducible refine gate_callee (f:=40) rfl ?_);refine goesL_ (some 44) rfl rfl Try.func40 zqk rfl #[.int .i64 2] rfl zq5 ?_;(with_reducible refine(spec_l20Boole.calls b7 2 a0h a0i _ A91.out).mono ?_);rintro e w94 ⟨c0f,c0g,rfl,c0,b6,hb⟩;refine⟨_,rfl,?_⟩;have c8:=zqm (Kd.S_mono (Kd.S_told (Kd.S_told (Kd.S_old (zqfS g5.out) hb) (Kd.S_base c0)) (Kd.R_base b6)) (fun _ h_=>h_.1));have d0:=zqm (Kd.R_elder' (zqfR f8.out) (Kd.R_base b6) hb);have j6:=zqm (Kd.S_lower (Kd.S_new' (Kd.S_new' c0 (Kd.S_lt (zqfS g5.out))) (Kd.R_lt (zqfR f8.out))) (keep_size (w:=w) (g:=g) (row:=none) zq0));have h9:=zqm (Kd.R_lower (Kd.R_new' b6 (Kd.R_lt (zqfR f8.out))) (keep_size (w:=w) (g:=g) (row:=none) zq0));replace a4:=zqm (blk_below (g:=b1) (o:= .cells #[.slice none 0 0,.slice none 0 0] 26 (0,0)) (zqe a4.out) hb);replace a0:=zqm (blk_below (g:=a8) (o:= .cells #[.slice none 0 0,.slice none 0 0] 26 (0,0)) (zqe a0.out) hb);have g8:=zqm (IsS61.below zq1 hb);replace HK:=zqm (KeepBut.trans zq0 (KeepBut.of_below hb g none) (.inl rfl));replace HB:=zqm (below_step zq3 hb);clear g5 f8 a2;have g5:=c8;have f8:=d0;have a2:=g8;clear c8 d0 g8 hb c0 b6;obtain⟨a8h,a9b,b0h⟩:=Kd.S_slice g5.out;subst b0h;obtain⟨a8i,a9c,b0i⟩:=Kd.R_slice f8.out;subst b0i;obtain⟨a8j,a9d,b0j⟩:=Kd.S_slice j6.out;subst b0j;obtain⟨a8k,a9e,b0k⟩:=Kd.R_slice h9.out;subst b0k)|((with_reducible refine gate_callee (f:=41) rfl ?_);refine goesL_ (some 45) rfl rfl Try.func41 zqk rfl #[.agg #[.slice a8h t0.length a9b,.slice a8i t1.length a9c],.agg #[.slice a8j a0h.length a9d,.slice a8k a0i.length a9e]] rfl zq5 ?_;(with_reducible refine(spec_l20Glued.calls b7 _ _ t0 _ _ t1 _ _ a0h _ _ a0i m5 p2 _ ?side1 ?side2 ?side3 ?side4 ?side5 ?side6 ?side7 ?side8 A92.out).mono ?_);(case side1=>repeat(first|exact(Kd.S_reads' g5.out).2.2|(with_reducible refine Kd.C_alloc ?_ _)|(with_reducible refine Kd.C_drewN ?_ _)|(with_reducible refine Kd.C_drew ?_)));(case side2=>exact(Kd.S_reads' g5.out).2.1);(case side3=>repeat(first|exact(Kd.R_reads' f8.out).2.2|(with_reducible refine Kd.C_alloc ?_ _)|(with_reducible refine Kd.C_drewN ?_ _)|(with_reducible refine Kd.C_drew ?_)));(case side4=>exact(Kd.R_reads' f8.out).2.1);(case side5=>repeat(first|exact(Kd.S_reads' j6.out).2.2|(with_reducible refine Kd.C_alloc ?_ _)|(with_reducible refine Kd.C_drewN ?_ _)|(with_reducible refine Kd.C_drew ?_)));(case side6=>exact(Kd.S_reads' j6.out).2.1);(case side7=>repeat(first|exact(Kd.R_reads' h9.out).2.2|(with_reducible refine Kd.C_alloc ?_ _)|(with_reducible refine Kd.C_drewN ?_ _)|(with_reducible refine Kd.C_drew ?_)));(case side8=>exact(Kd.R_reads' h9.out).2.1);rintro e w99 ⟨c0h,c0i,rfl,c0,b6,hb⟩;refine⟨_,rfl,?_⟩;have c8:=zqm (Kd.S_mono (Kd.S_told (Kd.S_told (Kd.S_old (zqfS g5.out) hb) (Kd.S_base c0)) (Kd.R_base b6)) (fun _ h_=>h_.1));have d0:=zqm (Kd.R_elder' (zqfR f8.out) (Kd.R_base b6) hb);have e6:=zqm (Kd.S_mono (Kd.S_told (Kd.S_told (Kd.S_old (zqfS j6.out) hb) (Kd.S_base c0)) (Kd.R_base b6)) (fun _ h_=>h_.1));have f9:=zqm (Kd.R_elder' (zqfR h9.out) (Kd.R_base b6) hb);have a2r:=zqm (Kd.S_lower (Kd.S_new' (Kd.S_new' (Kd.S_new' (Kd.S_new' c0 (Kd.S_lt (zqfS g5.out))) (Kd.R_lt (zqfR f8.out))) (Kd.S_lt (zqfS j6.out))) (Kd.R_lt (zqfR h9.out))) (keep_size (w:=w) (g:=g) (row:=none) zq0));have a2s:=zqm (Kd.R_lower (Kd.R_new' (Kd.R_new' b6 (Kd.R_lt (zqfR f8.out))) (Kd.R_lt (zqfR h9.out))) (keep_size (w:=w) (g:=g) (row:=none) zq0));replace a4:=zqm (blk_below (g:=b1) (o:= .cells #[.slice none 0 0,.slice none 0 0] 26 (0,0)) (zqe a4.out) hb);replace a0:=zqm (blk_below (g:=a8) (o:= .cells #[.slice none 0 0,.slice none 0 0] 26 (0,0)) (zqe a0.out) hb);have l2:=zqm (IsS61.below zq1 hb);replace HK:=zqm (KeepBut.trans zq0 (KeepBut.of_below hb g none) (.inl rfl));replace HB:=zqm (below_step zq3 hb);clear g5 f8 j6 h9 a2;have g5:=c8;have f8:=d0;have j6:=e6;have h9:=f9;have a2:=l2;clear c8 d0 e6 f9 l2 hb c0 b6;obtain⟨p5,q2,a6f⟩:=Kd.S_slice a2r.out;subst a6f;have b5r:=c6.out;have b6p:=b3.out;have b5s:=c2.out;have b6q:=a6.out;have b0l:w99.cell? ⟨a8,0,none⟩=some (.slice none 0 0):=(blk_cell a0.out 0).trans rfl;have b0m:w99.cell? ⟨a8,1,none⟩=some (.slice none 0 0):=(blk_cell a0.out 1).trans rfl;have b1r:=blk_frozen a0.out 0;have b1s:=blk_frozen a0.out 1;obtain⟨u1,x5,a6g⟩:=Kd.R_slice a2s.out;subst a6g))
            go_meet
            case rel=>exact⟨_,(c5),(m5),(p2),(.slice p5 m5.length q2),(.slice u1 p2.length x5),H',⟨zq101⟩,⟨by refine zqfS ?_;exact Kd.S_mono (Kd.S_far (p:=⟨a8,1,none⟩) (Kd.S_far (p:=⟨a8,0,none⟩) (Kd.S_types a2r.out a0.out (by decide)) (fun _ hk=>hk.2) (.slice p5 m5.length q2)) (fun _ hk=>hk.2) (.slice u1 p2.length x5)) (fun _ hk=>hk.1.1.1.1.1)⟩,⟨Kd.Q_of_R (by refine zqfR ?_;exact Kd.R_mono (Kd.R_far (p:=⟨a8,1,none⟩) (Kd.R_far (p:=⟨a8,0,none⟩) (Kd.R_types a2s.out a0.out (by decide)) (fun _ hk=>hk.2) (.slice p5 m5.length q2)) (fun _ hk=>hk.2) (.slice u1 p2.length x5)) (fun _ hk=>trivial))⟩,⟨zq32⟩,⟨by refine zqe ?_;refine blk_put (cs:= #[.slice p5 m5.length q2,.slice none 0 0]) ?_ 1 _ rfl;refine zqe ?_;refine blk_put (cs:= #[.slice none 0 0,.slice none 0 0]) ?_ 0 _ rfl;refine zqe ?_;exact a0.out⟩,⟨zq1⟩,⟨zq0⟩,⟨zq3⟩⟩
           ·rw [if_neg s1] at H;have a6c:(c3==7)=false:=beq_eq_false_iff_ne.mpr s1;have a6d:(c3 !=7)=true:=bne_iff_ne.mpr s1;replace H:=Option.bind_eq_some_iff.mp H;obtain⟨⟨m6,p3⟩,a1u,H⟩:=H;replace H:(spec_l20Logic.j2 b7 a1 s0_0 c5 m6 p3)=some (r1,r2,r3):=H;have a7l:=zqm a1u;clear a1u;have H':=zqm H;clear H
            go_wp2_with (first|((with_reducible refine gate_callee (f:=43) rfl ?_);refine goesL_ (some 13) rfl rfl Try.func43 zqk rfl #[] rfl zq5 ?_;(with_reducible refine(spec_l20Pasted.calls b7 m6 p3 _ a7l.out).mono ?_);rintro e a5b ⟨c0j,c0k,rfl,c0,b6,hb⟩;refine⟨_,rfl,?_⟩;have a2t:=zqm (Kd.S_lower c0 (keep_size (w:=w) (g:=g) (row:=none) zq0));have a2u:=zqm (Kd.R_lower b6 (keep_size (w:=w) (g:=g) (row:=none) zq0));replace a4:=zqm (blk_below (g:=b1) (o:= .cells #[.slice none 0 0,.slice none 0 0] 26 (0,0)) (zqe a4.out) hb);replace a0:=zqm (blk_below (g:=a8) (o:= .cells #[.slice none 0 0,.slice none 0 0] 26 (0,0)) (zqe a0.out) hb);have d6:=zqm (IsS61.below zq1 hb);replace HK:=zqm (KeepBut.trans zq0 (KeepBut.of_below hb g none) (.inl rfl));replace HB:=zqm (below_step zq3 hb);clear a2;have a2:=d6;clear d6 hb c0 b6;obtain⟨p6,q3,a6h⟩:=Kd.S_slice a2t.out;subst a6h;have b5t:=c6.out;have b6r:=b3.out;have b5u:=c2.out;have b6s:=a6.out;have b0n:a5b.cell? ⟨a8,0,none⟩=some (.slice none 0 0):=(blk_cell a0.out 0).trans rfl;have b0o:a5b.cell? ⟨a8,1,none⟩=some (.slice none 0 0):=(blk_cell a0.out 1).trans rfl;have b1t:=blk_frozen a0.out 0;have b1u:=blk_frozen a0.out 1;obtain⟨u2,x6,a6i⟩:=Kd.R_slice a2u.out;subst a6i))
            go_meet
            case rel=>exact⟨_,(c5),(m6),(p3),(.slice p6 m6.length q3),(.slice u2 p3.length x6),H',⟨zq101⟩,⟨by refine zqfS ?_;exact Kd.S_mono (Kd.S_far (p:=⟨a8,1,none⟩) (Kd.S_far (p:=⟨a8,0,none⟩) (Kd.S_types a2t.out a0.out (by decide)) (fun _ hk=>hk.2) (.slice p6 m6.length q3)) (fun _ hk=>hk.2) (.slice u2 p3.length x6)) (fun _ hk=>hk.1)⟩,⟨Kd.Q_of_R (by refine zqfR ?_;exact Kd.R_mono (Kd.R_far (p:=⟨a8,1,none⟩) (Kd.R_far (p:=⟨a8,0,none⟩) (Kd.R_types a2u.out a0.out (by decide)) (fun _ hk=>hk.2) (.slice p6 m6.length q3)) (fun _ hk=>hk.2) (.slice u2 p3.length x6)) (fun _ hk=>trivial))⟩,⟨zq32⟩,⟨by refine zqe ?_;refine blk_put (cs:= #[.slice p6 m6.length q3,.slice none 0 0]) ?_ 1 _ rfl;refine zqe ?_;refine blk_put (cs:= #[.slice none 0 0,.slice none 0 0]) ?_ 0 _ rfl;refine zqe ?_;exact a0.out⟩,⟨zq1⟩,⟨zq0⟩,⟨zq3⟩⟩
 case rest=>
  clear HC4;obtain⟨kq,i7,c4,h1,b8,b9,HA,t4,HO_241000,HO_241001,a4,a0,a2,HK,HB⟩:=hcut
  cases kq with
  |zero=>exact absurd HA.out (by simp [spec_l20Logic.j2])
  |succ kj3=>
   have H:=HA.out;clear HA;simp only [spec_l20Logic.j2] at H;obtain⟨a5f,y7⟩: ∃y_:List Int,y_=(([]:List Int)):=⟨_,rfl⟩;replace H:(spec_l20Logic.l0 kj3 a1 a5f 0 s0_0 i7 c4 h1)=some (r1,r2,r3):=zqy y7 H;have a2x:=zqm y7;clear y7;have H':=zqm H;clear H
   go_wp2_with (first|((with_reducible refine gate_dst (N:=46) rfl ?_);refine Kd.R_lit (Kd.int .i64) _ 3 ?hg (N:=46) ?hd (xs:=([]:List Int)) (inner:= []) (ok:=fun _=>True) (okp:=fun _=>True) ?hr ?hp (fun _ hk=>hk) trivial (Below.refl _ _) (Nat.le_refl _) (by simp) ?_;(case hd=>rfl);(case hg=>rfl);(case hr=> exact zq15);(case hp=>exact(Reps.none _ _));intro c0l c0o k4 hb hg_ hnew_;clear hg_ hnew_;(first|rw [← a2x.out] at k4|(simp only [Int.reduceToNat] at k4;rw [← a2x.out] at k4));replace HO_241000:=zqm (Kd.S_elder' (zqfS HO_241000.out) (Kd.R_base k4) hb);have d0:=zqm (Kd.Q_elder' (zqfQ HO_241001.out) (Kd.R_base k4) hb);have a5l:=zqm (Kd.R_lower (Kd.R_new' k4 (Kd.Q_lt (zqfQ HO_241001.out))) (keep_size (w:=w) (g:=g) (row:=none) zq0));replace a4:=zqm (blk_below (g:=b1) (o:= .cells #[.slice none 0 0,.slice none 0 0] 26 (0,0)) (zqe a4.out) hb);replace a0:=zqm (blk_below (g:=a8) (o:= .cells #[b8,b9] 26 (0,0)) (zqe a0.out) hb);have k6:=zqm (IsS61.below zq1 hb);replace HK:=zqm (KeepBut.trans zq0 (KeepBut.of_below hb g none) (.inl rfl));replace HB:=zqm (below_step zq3 hb);clear HO_241001 a2;have HO_241001:=d0;have a2:=k6;clear d0 k6 hb k4))
   go_loopg [6,7] kj3 (fun kq v6 v7 w'=> ∃(h3:List Int) (d5:Int) (e7:Int) (b2:List Int) (b9:Value),v7= .int .i64 d5∧Aside0 (spec_l20Logic.l0 kq a1 h3 d5 s0_0 e7 c4 b2=some (r1,r2,r3))∧Aside0 (kq≤kj3)∧Aside0 (Kd.R (Kd.int .i64) 3 w' w.heap.size (fun k_=>some k_≠(b9:Value).ownBlock) v6 h3)∧Aside0 (Kd.S (Kd.slice 3 (Kd.int .i64)) 24 w' w.heap.size (fun k_=>some k_≠(v6:Value).ownBlock∧some k_≠(b9:Value).ownBlock) b8 c4)∧Aside0 (Kd.Q (Kd.int .i64) 3 w' w.heap.size (fun k_=>some k_≠(v6:Value).ownBlock) b9 b2)∧Aside0 (w'.heap[b1]? =some (.cells #[(.slice none 0 0),(.slice none 0 0)] 26 (0,0)))∧Aside0 (w'.heap[a8]? =some (.cells #[b8,b9] 26 (0,0)))∧Aside0 (IsS61 w0 w' g s0_0 e7)∧Aside0 (KeepBut w w' g none)∧Aside0 (Below w0.heap.size w0 w'))
   case atStart=>exact⟨(a5f),(0),(i7),(h1),(b9),zq6,H',⟨Nat.le_refl _⟩,⟨by refine zqfR ?_;exact Kd.R_mono a5l.out (fun _ hk=>hk.2)⟩,⟨zq73⟩,⟨zq125⟩,⟨zqe a4.out⟩,⟨zqe a0.out⟩,⟨zq1⟩,⟨zq0⟩,⟨zq3⟩⟩
   case round=>
    clear H';obtain⟨h3,d5,e7,b2,b9,rfl,HA,t5,HO_6,HO_241000,HO_241001,a4,a0,a2,HK,HB⟩:=hrel
    cases gk with
    |zero=>exact absurd HA.out (by simp [spec_l20Logic.l0])
    |succ k2=>
     have H:=HA.out;clear HA;simp only [spec_l20Logic.l0] at H
     by_cases o4:d5<(b2.length:Int)
     ·rw [if_pos o4] at H;have a4l:decide (d5<(b2.length:Int))=true:=decide_eq_true o4;clear o4;replace H:=Option.bind_eq_some_iff.mp H;obtain⟨⟨f2,k5⟩,a1v,H⟩:=H;replace H:(if h3.length<17592186044416 then(spec_l20Logic.l1 k2 a1 (h3 ++ [d5]) d5 f2 d5 s0_0 k5 c4 b2) else(none))=some (r1,r2,r3):=H;have a7m:=zqm a1v;clear a1v
      by_cases v5:h3.length<17592186044416
      ·rw [if_pos v5] at H;have LMc116:=zqm v5;clear v5;obtain⟨a5g,y8⟩: ∃y_:List Int,y_=(h3 ++ [d5]):=⟨_,rfl⟩;replace H:(spec_l20Logic.l1 k2 a1 a5g d5 f2 d5 s0_0 k5 c4 b2)=some (r1,r2,r3):=zqy y8 H;have a5o:=zqm y8;clear y8;have H':=zqm H;clear H;have b5v:=c6.out;have b6t:=b3.out;have b5w:=c2.out;have b6u:=a6.out;have b0p:wr.cell? ⟨a8,0,none⟩=some (b8):=(blk_cell a0.out 0).trans rfl;have b0q:wr.cell? ⟨a8,1,none⟩=some (b9):=(blk_cell a0.out 1).trans rfl;have b1v:=blk_frozen a0.out 0;have b1w:=blk_frozen a0.out 1;obtain⟨e8,f1,a6j,_⟩:=Kd.Q_slice HO_241001.out;subst a6j
       go_wp2_with (first|((with_reducible refine gate_callee (f:=39) rfl ?_);refine goesL_ (some 57) rfl rfl Try.func39 zqk rfl #[.pointer (some ⟨g,0,none⟩),.int .i64 (wrap64 (d5+1))] rfl zq5 ?_;(with_reducible refine(spec_l20Rd_pick.calls k2 g s0_0 e7 (wrap64 (d5+1)) f2 k5 w0 _ ?side1 ?side2 a7m.out).mono ?_);(case side1=> exact zq1);(case side2=> exact zq3);rintro e c0p ⟨rfl,hi,hb,hk⟩;refine⟨_,rfl,?_⟩;replace HO_6:=zqm (Kd.R_mono (Kd.R_keep (IsS61.apart (show IsS61 w0 _ g s0_0 e7 from zq1) (zqfR HO_6.out) (by decide)) hk (fun _ h=>h.2)) (fun _ h=>h.1));replace HO_241000:=zqm (Kd.S_mono (Kd.S_keep (IsS61.apartS (show IsS61 w0 _ g s0_0 e7 from zq1) (zqfS HO_241000.out) (by decide)) hk (fun _ h=>h.2)) (fun _ h=>h.1));replace HO_241001:=zqm (Kd.Q_mono (Kd.Q_keep (IsS61.apartQ (show IsS61 w0 _ g s0_0 e7 from zq1) (zqfQ HO_241001.out) (by decide)) hk (fun _ h=>h.2)) (fun _ h=>h.1));replace a4:=zqm (KeepBut.blk hk (g':=b1) (o:= .cells #[.slice none 0 0,.slice none 0 0] 26 (0,0)) (zqe a4.out) c7.out (by simp));replace a0:=zqm (KeepBut.blk hk (g':=a8) (o:= .cells #[b8,.slice e8 b2.length f1] 26 (0,0)) (zqe a0.out) c2.out (by simp));replace HK:=zqm (KeepBut.trans zq0 hk (.inl rfl));replace HB:=zqm (hb);replace a2:=zqm (hi);clear hb hk hi)|((with_reducible refine gate_builtin (b:= .append) (xs:= #[.tmp 58,.tmp 60]) rfl ?_);at_builtin;refine Kd.R_append (Kd.int .i64) w.heap.size rfl (.tmp 58) (.tmp 60) 24 3 (.int .i64 0) 8 rfl Try.underlying24 info3 rfl (by decide) (by omega) u6 h3 d5 [.int .i64 d5] (fun k_=>some k_≠(.slice e8 b2.length f1:Value).ownBlock) (fun _=>False) rfl rfl ?aP (fun _ hk=>hk.elim) ?aF ?aO (Below.refl _ _) ?aS ?aL ?_;(case aP=>exact rfl);(case aF=>exact(fun k_ hk=>Kd.fresh' (Kd.Q_lt (zqfQ HO_241001.out)) k_ hk));(case aO=>exact(zqfR HO_6.out));(case aS=>exact(keep_size (w:=w) (g:=g) (row:=none) zq0));(case aL=>have:=LMc116.out;omega);intro a1o c0q ho hb hg hat;rw [← a5o.out] at ho;replace HO_241000:=zqm (Kd.S_after (ok:=(fun k_=>some k_≠(.slice e8 b2.length f1:Value).ownBlock)) zq73 hg hat);replace HO_241001:=zqm (Kd.Q_after (ok:=(fun _=>True)) zq130 hg hat);replace a4:=zqm (blk_grown (g:=b1) (o:= .cells #[.slice none 0 0,.slice none 0 0] 26 (0,0)) (zqe a4.out) hg (Kd.R_ne HO_6.out a4.out (by decide)));replace a0:=zqm (blk_grown (g:=a8) (o:= .cells #[b8,.slice e8 b2.length f1] 26 (0,0)) (zqe a0.out) hg (Kd.R_ne HO_6.out a0.out (by decide)));have d6:=zqm (IsS61.grown zq1 hg (IsS61.own_ne a2.out HO_6.out (by decide)));replace HB:=zqm (below_weaken zq3 HL.out hb);replace HK:=zqm (KeepBut.trans zq0 (KeepBut.of_grown hg g) (Kd.R_base2 HO_6.out));have a5m:=zqm (ho);clear a2 HO_6;have a2:=d6;clear d6 ho hb hg hat))
       go_loopg [9] k2 (fun kq v9 w'=> ∃(d1:List Int) (e4:Int),v9= .int .i64 e4∧Aside0 (spec_l20Logic.l1 kq a1 d1 d5 f2 e4 s0_0 k5 c4 b2=some (r1,r2,r3))∧Aside0 (kq≤k2)∧Aside0 (Kd.R (Kd.int .i64) 3 w' w.heap.size (fun k_=>some k_≠((.slice e8 b2.length f1):Value).ownBlock) a1o d1)∧Aside0 (Kd.S (Kd.slice 3 (Kd.int .i64)) 24 w' w.heap.size (fun k_=>some k_≠(a1o:Value).ownBlock∧some k_≠((.slice e8 b2.length f1):Value).ownBlock) b8 c4)∧Aside0 (Kd.Q (Kd.int .i64) 3 w' w.heap.size (fun k_=>some k_≠(a1o:Value).ownBlock) (.slice e8 b2.length f1) b2)∧Aside0 (w'.heap[b1]? =some (.cells #[(.slice none 0 0),(.slice none 0 0)] 26 (0,0)))∧Aside0 (w'.heap[a8]? =some (.cells #[b8,(.slice e8 b2.length f1)] 26 (0,0)))∧Aside0 (IsS61 w0 w' g s0_0 k5)∧Aside0 (KeepBut w w' g none)∧Aside0 (Below w0.heap.size w0 w'))
       case atStart=>exact⟨(a5g),(d5),zq6,H',⟨Nat.le_refl _⟩,⟨zqfR a5m.out⟩,⟨zq73⟩,⟨zq125⟩,⟨zqe a4.out⟩,⟨zqe a0.out⟩,⟨zq1⟩,⟨zq0⟩,⟨zq3⟩⟩
       case round=>
        clear H';obtain⟨d1,e4,rfl,HA,HK3,HO_6,HO_241000,HO_241001,a4,a0,a2,HK,HB⟩:=hrel
        cases gk with
        |zero=>exact absurd HA.out (by simp [spec_l20Logic.l1])
        |succ k3=>
         have H:=HA.out;clear HA;simp only [spec_l20Logic.l1] at H
         by_cases o5:e4>f2
         ·rw [if_pos o5] at H;have a4m:decide (f2<e4)=true:=decide_eq_true o5;clear o5;obtain⟨e1,n9⟩: ∃j_:Int,(wrap64 (e4 - 1))=j_:=⟨_,rfl⟩;(replace H:(if 0≤(e1) then(if(e1)<(d1.length:Int) then(if 0≤e4 then(if e4<(d1.length:Int) then(spec_l20Logic.l1 k3 a1 (d1.set (e4:Int).toNat (rd d1 (e1))) d5 f2 e1 s0_0 k5 c4 b2) else(none)) else(none)) else(none)) else(none))=some (r1,r2,r3):=by first|(rw [n9] at H;exact H)|(simp only [n9] at H ⊢;exact H));have b3x:(IntKind.i64.wrap (e4 - 1))=e1:=(i64_w _).trans n9
          by_cases v8:0≤(e1)
          ·rw [if_pos v8] at H;have b4w:decide (0≤(e1))=true:=decide_eq_true v8;clear v8
           by_cases w2:(e1)<(d1.length:Int)
           ·rw [if_pos w2] at H;have b4x:decide ((e1)<(d1.length:Int))=true:=decide_eq_true w2;clear w2
            by_cases w3:0≤e4
            ·rw [if_pos w3] at H;have b4y:decide (0≤e4)=true:=decide_eq_true w3;clear w3
             by_cases w4:e4<(d1.length:Int)
             ·rw [if_pos w4] at H;have b4z:decide (e4<(d1.length:Int))=true:=decide_eq_true w4;clear w4;obtain⟨a1r,y9⟩: ∃y_:List Int,y_=(d1.set (e4:Int).toNat (rd d1 (e1))):=⟨_,rfl⟩;replace H:(spec_l20Logic.l1 k3 a1 a1r d5 f2 e1 s0_0 k5 c4 b2)=some (r1,r2,r3):=zqy y9 H;have a5p:=zqm y9;clear y9;have H':=zqm H;clear H;obtain⟨b7p,n7,a6k⟩:=Kd.R_slice HO_6.out;subst a6k;have a1h:0≤((e1):Int):=zqo;have a1n:(e1)<(d1.length:Int):=zqo;obtain⟨b7u,a9f,a3s⟩:=Kd.at_int (Kd.R_reads' HO_6.out).2.2 (e1) a1h a1n
              cases a9f
              replace a1h:=eq_true a1h;replace a1n:=eq_true a1n;have a1d:0≤(e4:Int):=zqo;have a1i:(e4:Int)<((d1.length:Int):Int):=zqo;obtain⟨k0,b8b,a3j,a3o,a6x,b7x,a2c⟩:=Kd.R_form HO_6.out (by omega);(first|cases a3j|(injection a3j with ea_ en_ ec_;(first|subst ea_|(injection ea_ with ea_;subst ea_));subst ec_;clear en_));have GB129:=zqm a3o;have GG129:=zqm a2c;clear a3o a6x a2c;(first|simp only [add_plain] at a3s|skip);obtain⟨b3z,b3k⟩:=Kd.R_celln 0 HO_6.out (e4:Int) a1d a1i;replace a1d:=eq_true a1d;replace a1i:=eq_true a1i;have HP131:=Kd.R_putg HO_6.out (e4:Int) (rd d1 (e1))
              go_wp2_with (first|((with_reducible refine gate_store (t:=3) (p:=75) rfl ?_);refine store_event (t:=3) (p:=75) (v:=?vo_w132) (w1:=(wr.setCell ⟨k0,(e4:Int).toNat,none⟩ (.int .i64 (rd d1 (e1))))) ?hg ?ho ?hn ?hr ?_;(case ho=>rfl);(case hg=>rfl);(case hn=>rfl);(case hr=> exact zq15);intro a1p hw;have hg:wr.grownBy a1p (some k0):=(by rw [hw];exact HP131.2);have hp_:Kd.R (Kd.int .i64) 3 a1p w.heap.size (fun k_=>some k_≠(.slice e8 b2.length f1:Value).ownBlock) (.slice (some ⟨k0,0,none⟩) d1.length n7) a1r:=(by rw [hw,a5p.out];exact HP131.1);clear HP131;have c8:=zqm (hp_);replace HO_241000:=zqm (Kd.S_after (v:=(.slice (some ⟨k0,0,none⟩) d1.length n7)) (v1:=(.slice (some ⟨k0,0,none⟩) d1.length n7)) (ok:=(fun k_=>some k_≠(.slice e8 b2.length f1:Value).ownBlock)) zq73 hg (.inl rfl));replace HO_241001:=zqm (Kd.Q_after (v:=(.slice (some ⟨k0,0,none⟩) d1.length n7)) (v1:=(.slice (some ⟨k0,0,none⟩) d1.length n7)) (ok:=(fun _=>True)) zq130 hg (.inl rfl));replace a4:=zqm (blk_grown (g:=b1) (o:= .cells #[.slice none 0 0,.slice none 0 0] 26 (0,0)) (zqe a4.out) hg (Kd.R_ne HO_6.out a4.out (by decide)));replace a0:=zqm (blk_grown (g:=a8) (o:= .cells #[b8,.slice e8 b2.length f1] 26 (0,0)) (zqe a0.out) hg (Kd.R_ne HO_6.out a0.out (by decide)));replace a2:=zqm (IsS61.grown zq1 hg (IsS61.own_ne a2.out HO_6.out (by decide)));replace HB:=zqm ((by rw [hw];exact below_set (HB.out) (Nat.le_trans HL.out GB129.out):Below w0.heap.size w0 a1p));replace HK:=zqm (KeepBut.trans zq0 (KeepBut.of_grown hg g) (Kd.R_base2 HO_6.out));clear HO_6;have HO_6:=c8;clear c8 hg hw hp_))
              go_roundg k3
              (case measure=> exact zq139);case rel=>exact⟨(a1r),(e1),(by first|rfl|(simp;done)|(simp only [← n9] <;> (first|rfl|simp))|(simp [*];done)),H',⟨zq139⟩,⟨zqfR HO_6.out⟩,⟨zq73⟩,⟨zq125⟩,⟨zqe a4.out⟩,⟨zqe a0.out⟩,⟨zq1⟩,⟨zq0⟩,⟨zq3⟩⟩
             ·rw [if_neg w4] at H;exact absurd H (by simp)
            ·rw [if_neg w3] at H;exact absurd H (by simp)
           ·rw [if_neg w2] at H;exact absurd H (by simp)
          ·rw [if_neg v8] at H;exact absurd H (by simp)
         ·rw [if_neg o5] at H;have a4m:decide (f2<e4)=false:=decide_eq_false o5;clear o5
          by_cases w7:0≤f2
          ·rw [if_pos w7] at H;have b5a:decide (0≤f2)=true:=decide_eq_true w7;clear w7
           by_cases w8:f2<(d1.length:Int)
           ·rw [if_pos w8] at H;have b5b:decide (f2<(d1.length:Int))=true:=decide_eq_true w8;clear w8;obtain⟨a1s,z0⟩: ∃y_:List Int,y_=(d1.set (f2:Int).toNat d5):=⟨_,rfl⟩;replace H:(spec_l20Logic.l0 k3 a1 a1s (wrap64 (d5+1)) s0_0 k5 c4 b2)=some (r1,r2,r3):=zqy z0 H;have a5q:=zqm z0;clear z0;have H':=zqm H;clear H;have a1e:0≤(f2:Int):=zqo;have a1j:(f2:Int)<((d1.length:Int):Int):=zqo;obtain⟨k1,n8,a3k,a3p,a6y,b7y,a2d⟩:=Kd.R_form HO_6.out (by omega);(first|cases a3k|(injection a3k with ea_ en_ ec_;(first|subst ea_|(injection ea_ with ea_;subst ea_));subst ec_;clear en_));have GB135:=zqm a3p;have GG135:=zqm a2d;clear a3p a6y a2d;obtain⟨b4a,b3l⟩:=Kd.R_celln 0 HO_6.out (f2:Int) a1e a1j;replace a1e:=eq_true a1e;replace a1j:=eq_true a1j;have HP136:=Kd.R_putg HO_6.out (f2:Int) d5
            go_wp2_with (first|((with_reducible refine gate_store (t:=3) (p:=79) rfl ?_);refine store_event (t:=3) (p:=79) (v:=?vo_w137) (w1:=(wr.setCell ⟨k1,(f2:Int).toNat,none⟩ (.int .i64 d5))) ?hg ?ho ?hn ?hr ?_;(case ho=>rfl);(case hg=>rfl);(case hn=>rfl);(case hr=> exact zq15);intro a1q hw;have hg:wr.grownBy a1q (some k1):=(by rw [hw];exact HP136.2);have hp_:Kd.R (Kd.int .i64) 3 a1q w.heap.size (fun k_=>some k_≠(.slice e8 b2.length f1:Value).ownBlock) (.slice (some ⟨k1,0,none⟩) d1.length n8) a1s:=(by rw [hw,a5q.out];exact HP136.1);clear HP136;have c8:=zqm (hp_);replace HO_241000:=zqm (Kd.S_after (v:=(.slice (some ⟨k1,0,none⟩) d1.length n8)) (v1:=(.slice (some ⟨k1,0,none⟩) d1.length n8)) (ok:=(fun k_=>some k_≠(.slice e8 b2.length f1:Value).ownBlock)) zq73 hg (.inl rfl));replace HO_241001:=zqm (Kd.Q_after (v:=(.slice (some ⟨k1,0,none⟩) d1.length n8)) (v1:=(.slice (some ⟨k1,0,none⟩) d1.length n8)) (ok:=(fun _=>True)) zq130 hg (.inl rfl));replace a4:=zqm (blk_grown (g:=b1) (o:= .cells #[.slice none 0 0,.slice none 0 0] 26 (0,0)) (zqe a4.out) hg (Kd.R_ne HO_6.out a4.out (by decide)));replace a0:=zqm (blk_grown (g:=a8) (o:= .cells #[b8,.slice e8 b2.length f1] 26 (0,0)) (zqe a0.out) hg (Kd.R_ne HO_6.out a0.out (by decide)));replace a2:=zqm (IsS61.grown zq1 hg (IsS61.own_ne a2.out HO_6.out (by decide)));replace HB:=zqm ((by rw [hw];exact below_set (HB.out) (Nat.le_trans HL.out GB135.out):Below w0.heap.size w0 a1q));replace HK:=zqm (KeepBut.trans zq0 (KeepBut.of_grown hg g) (Kd.R_base2 HO_6.out));clear HO_6;have HO_6:=c8;clear c8 hg hw hp_))
            go_roundg k3
            (case measure=> exact zq139);case rel=>exact⟨(a1s),(wrap64 (d5+1)),(k5),(b2),(.slice e8 b2.length f1),zq6,H',⟨zq139⟩,⟨zqfR HO_6.out⟩,⟨zq73⟩,⟨zq125⟩,⟨zqe a4.out⟩,⟨zqe a0.out⟩,⟨zq1⟩,⟨zq0⟩,⟨zq3⟩⟩
           ·rw [if_neg w8] at H;exact absurd H (by simp)
          ·rw [if_neg w7] at H;exact absurd H (by simp)
      ·rw [if_neg v5] at H;exact absurd H (by simp)
     ·rw [if_neg o4] at H;have a4l:decide (d5<(b2.length:Int))=false:=decide_eq_false o4;clear o4;replace H:=Option.bind_eq_some_iff.mp H;obtain⟨⟨m7,e2⟩,a1w,H⟩:=H;replace H:(if m7=0 then((spec_l20Rename.f k2 c4 b2 h3).bind fun a3g=>(spec_l20Logic.j5 k2 a1 s0_0 e2 a3g.1 a3g.2)) else(spec_l20Logic.j5 k2 a1 s0_0 e2 c4 b2))=some (r1,r2,r3):=H;have a7n:=zqm a1w;clear a1w;have v4:=zqm H;clear H;have b5x:=c6.out;have b6v:=b3.out;have b5y:=c2.out;have b6w:=a6.out;have b0r:wr.cell? ⟨a8,0,none⟩=some (b8):=(blk_cell a0.out 0).trans rfl;have b0s:wr.cell? ⟨a8,1,none⟩=some (b9):=(blk_cell a0.out 1).trans rfl;have b1x:=blk_frozen a0.out 0;have b1y:=blk_frozen a0.out 1;obtain⟨h5,i4,a6l,_⟩:=Kd.Q_slice HO_241001.out;subst a6l
      go_upto_if 82 with (first|((with_reducible refine gate_callee (f:=39) rfl ?_);refine goesL_ (some 81) rfl rfl Try.func39 zqk rfl #[.pointer (some ⟨g,0,none⟩),.int .i64 2] rfl zq5 ?_;(with_reducible refine(spec_l20Rd_pick.calls k2 g s0_0 e7 2 m7 e2 w0 _ ?side1 ?side2 a7n.out).mono ?_);(case side1=> exact zq1);(case side2=> exact zq3);rintro e a5c ⟨rfl,hi,hb,hk⟩;refine⟨_,rfl,?_⟩;replace HO_6:=zqm (Kd.R_mono (Kd.R_keep (IsS61.apart (show IsS61 w0 _ g s0_0 e7 from zq1) (zqfR HO_6.out) (by decide)) hk (fun _ h=>h.2)) (fun _ h=>h.1));replace HO_241000:=zqm (Kd.S_mono (Kd.S_keep (IsS61.apartS (show IsS61 w0 _ g s0_0 e7 from zq1) (zqfS HO_241000.out) (by decide)) hk (fun _ h=>h.2)) (fun _ h=>h.1));replace HO_241001:=zqm (Kd.Q_mono (Kd.Q_keep (IsS61.apartQ (show IsS61 w0 _ g s0_0 e7 from zq1) (zqfQ HO_241001.out) (by decide)) hk (fun _ h=>h.2)) (fun _ h=>h.1));replace a4:=zqm (KeepBut.blk hk (g':=b1) (o:= .cells #[.slice none 0 0,.slice none 0 0] 26 (0,0)) (zqe a4.out) c7.out (by simp));replace a0:=zqm (KeepBut.blk hk (g':=a8) (o:= .cells #[b8,.slice h5 b2.length i4] 26 (0,0)) (zqe a0.out) c2.out (by simp));replace HK:=zqm (KeepBut.trans zq0 hk (.inl rfl));replace HB:=zqm (hb);replace a2:=zqm (hi);clear hb hk hi))
      (try simp only [Act.put,List.setIfInBounds_toArray,List.set_cons_zero,List.set_cons_succ])
      go_cut [] (fun wc=> ∃(kq:Nat) (a3:List (List Int)) (a5:List Int) (b8:Value) (b9:Value),Aside0 (spec_l20Logic.j5 kq a1 s0_0 e2 a3 a5=some (r1,r2,r3))∧Aside0 (kq≤k2)∧Aside0 (Kd.S (Kd.slice 3 (Kd.int .i64)) 24 wc w.heap.size (fun k_=>some k_≠(b9:Value).ownBlock) b8 a3)∧Aside0 (Kd.Q (Kd.int .i64) 3 wc w.heap.size (fun _=>True) b9 a5)∧Aside0 (wc.heap[b1]? =some (.cells #[(.slice none 0 0),(.slice none 0 0)] 26 (0,0)))∧Aside0 (wc.heap[a8]? =some (.cells #[b8,b9] 26 (0,0)))∧Aside0 (IsS61 w0 wc g s0_0 e2)∧Aside0 (KeepBut w wc g none)∧Aside0 (Below w0.heap.size w0 wc))
      case first=>
       have H:=v4.out;clear v4
       by_cases l6:m7=0
       ·rw [if_pos l6] at H;have k8:(m7==0)=true:=beq_iff_eq.mpr l6;have a4n:(m7 !=0)=false:=bne_eq_false_iff_eq.mpr l6;clear l6;(first|rw [k8]|(simp only [i64_w,i32_w];rw [k8])|skip);replace H:=Option.bind_eq_some_iff.mp H;obtain⟨⟨m8,p4⟩,a1x,H⟩:=H;replace H:(spec_l20Logic.j5 k2 a1 s0_0 e2 m8 p4)=some (r1,r2,r3):=H;have a7o:=zqm a1x;clear a1x;have H':=zqm H;clear H;have b5z:=c6.out;have b6x:=b3.out;have b6a:=c2.out;have b6y:=a6.out;have b0t:a5c.cell? ⟨a8,0,none⟩=some (b8):=(blk_cell a0.out 0).trans rfl;have b0u:a5c.cell? ⟨a8,1,none⟩=some (.slice h5 b2.length i4):=(blk_cell a0.out 1).trans rfl;have b1z:=blk_frozen a0.out 0;have b2a:=blk_frozen a0.out 1;obtain⟨p7,q4,a6m⟩:=Kd.S_slice HO_241000.out;subst a6m;obtain⟨a5j,a6e,a6n⟩:=Kd.R_slice HO_6.out;subst a6n
        go_wp2_with (first|((with_reducible refine gate_callee (f:=44) rfl ?_);refine goesL_ (some 85) rfl rfl Try.func44 zqk rfl #[.agg #[.slice p7 c4.length q4,.slice h5 b2.length i4],.slice a5j h3.length a6e] rfl zq5 ?_;(with_reducible refine(spec_l20Rename.calls k2 _ _ c4 _ _ b2 _ _ h3 m8 p4 _ ?side1 ?side2 ?side3 ?side4 ?side5 ?side6 a7o.out).mono ?_);(case side1=>repeat(first|exact(Kd.S_reads' HO_241000.out).2.2|(with_reducible refine Kd.C_alloc ?_ _)|(with_reducible refine Kd.C_drewN ?_ _)|(with_reducible refine Kd.C_drew ?_)));(case side2=>exact(Kd.S_reads' HO_241000.out).2.1);(case side3=>repeat(first|exact(Kd.Q_reads' HO_241001.out).2.2|(with_reducible refine Kd.C_alloc ?_ _)|(with_reducible refine Kd.C_drewN ?_ _)|(with_reducible refine Kd.C_drew ?_)));(case side4=>exact(Kd.Q_reads' HO_241001.out).2.1);(case side5=>repeat(first|exact(Kd.R_reads' HO_6.out).2.2|(with_reducible refine Kd.C_alloc ?_ _)|(with_reducible refine Kd.C_drewN ?_ _)|(with_reducible refine Kd.C_drew ?_)));(case side6=>exact(Kd.R_reads' HO_6.out).2.1);rintro e a5d ⟨c0m,c0n,rfl,c0,b6,hb⟩;refine⟨_,rfl,?_⟩;have c8:=zqm (Kd.R_elder' (zqfR HO_6.out) (Kd.R_base b6) hb);have d0:=zqm (Kd.S_mono (Kd.S_told (Kd.S_told (Kd.S_old (zqfS HO_241000.out) hb) (Kd.S_base c0)) (Kd.R_base b6)) (fun _ h_=>h_.1));have e6:=zqm (Kd.Q_elder' (zqfQ HO_241001.out) (Kd.R_base b6) hb);have a2v:=zqm (Kd.S_lower (Kd.S_new' (Kd.S_new' (Kd.S_new' c0 (Kd.R_lt (zqfR HO_6.out))) (Kd.S_lt (zqfS HO_241000.out))) (Kd.Q_lt (zqfQ HO_241001.out))) (keep_size (w:=w) (g:=g) (row:=none) zq0));have a2w:=zqm (Kd.R_lower (Kd.R_new' (Kd.R_new' b6 (Kd.R_lt (zqfR HO_6.out))) (Kd.Q_lt (zqfQ HO_241001.out))) (keep_size (w:=w) (g:=g) (row:=none) zq0));replace a4:=zqm (blk_below (g:=b1) (o:= .cells #[.slice none 0 0,.slice none 0 0] 26 (0,0)) (zqe a4.out) hb);replace a0:=zqm (blk_below (g:=a8) (o:= .cells #[.slice p7 c4.length q4,.slice h5 b2.length i4] 26 (0,0)) (zqe a0.out) hb);have n7_:=zqm (IsS61.below zq1 hb);replace HK:=zqm (KeepBut.trans zq0 (KeepBut.of_below hb g none) (.inl rfl));replace HB:=zqm (below_step zq3 hb);clear HO_6 HO_241000 HO_241001 a2;have HO_6:=c8;have HO_241000:=d0;have HO_241001:=e6;have a2:=n7_;clear c8 d0 e6 n7_ hb c0 b6;obtain⟨p8,q5,a6o⟩:=Kd.S_slice a2v.out;subst a6o;have b0v:a5d.cell? ⟨a8,0,none⟩=some (.slice p7 c4.length q4):=(blk_cell a0.out 0).trans rfl;have b0w:a5d.cell? ⟨a8,1,none⟩=some (.slice h5 b2.length i4):=(blk_cell a0.out 1).trans rfl;have b2b:=blk_frozen a0.out 0;have b2c:=blk_frozen a0.out 1;obtain⟨u3,x7,a6p⟩:=Kd.R_slice a2w.out;subst a6p))
        go_meet
        case rel=>exact⟨_,(m8),(p4),(.slice p8 m8.length q5),(.slice u3 p4.length x7),H',⟨by have:=t4.out;have:=t5.out;first|omega|exact Nat.le_refl _⟩,⟨by refine zqfS ?_;exact Kd.S_mono (Kd.S_far (p:=⟨a8,1,none⟩) (Kd.S_far (p:=⟨a8,0,none⟩) (Kd.S_types a2v.out a0.out (by decide)) (fun _ hk=>hk.2) (.slice p8 m8.length q5)) (fun _ hk=>hk.2) (.slice u3 p4.length x7)) (fun _ hk=>hk.1.1.1.1)⟩,⟨Kd.Q_of_R (by refine zqfR ?_;exact Kd.R_mono (Kd.R_far (p:=⟨a8,1,none⟩) (Kd.R_far (p:=⟨a8,0,none⟩) (Kd.R_types a2w.out a0.out (by decide)) (fun _ hk=>hk.2) (.slice p8 m8.length q5)) (fun _ hk=>hk.2) (.slice u3 p4.length x7)) (fun _ hk=>trivial))⟩,⟨zq32⟩,⟨by refine zqe ?_;refine blk_put (cs:= #[.slice p8 m8.length q5,.slice h5 b2.length i4]) ?_ 1 _ rfl;refine zqe ?_;refine blk_put (cs:= #[.slice p7 c4.length q4,.slice h5 b2.length i4]) ?_ 0 _ rfl;refine zqe ?_;exact a0.out⟩,⟨zq1⟩,⟨zq0⟩,⟨zq3⟩⟩
       ·rw [if_neg l6] at H;have k8:(m7==0)=false:=beq_eq_false_iff_ne.mpr l6;have a4n:(m7 !=0)=true:=bne_iff_ne.mpr l6;(first|rw [k8]|(simp only [i64_w,i32_w];rw [k8])|skip);have H':=zqm H;clear H
        go_wp2
        go_meet
        case rel=>exact⟨_,(c4),(b2),(b8),(.slice h5 b2.length i4),H',⟨by have:=t4.out;have:=t5.out;first|omega|exact Nat.le_refl _⟩,⟨by refine zqfS ?_;exact Kd.S_mono HO_241000.out (fun _ hk=>hk.2)⟩,⟨by refine zqfQ ?_;exact Kd.Q_mono HO_241001.out (fun _ hk=>trivial)⟩,⟨zqe a4.out⟩,⟨zqe a0.out⟩,⟨zq1⟩,⟨zq0⟩,⟨zq3⟩⟩
      case rest=>
       clear v4;obtain⟨kq,a3,a5,b8,b9,HA,b7s,HO_241000,HO_241001,a4,a0,a2,HK,HB⟩:=hcut
       cases kq with
       |zero=>exact absurd HA.out (by simp [spec_l20Logic.j5])
       |succ d4=>
        have H:=HA.out;clear HA;simp only [spec_l20Logic.j5] at H;replace H:=Option.bind_eq_some_iff.mp H;obtain⟨⟨a5a,e3⟩,a1y,H⟩:=H;replace H:(if a5a=true then((spec_l20Rd_pick.f d4 s0_0 e3 4).bind fun f0=>(if f0.1=0 then(some (([]:List (List Int)),([]:List Int),f0.2)) else(if f0.1=1 then(if 1≤(a5.length:Int) then(some (a3,(a5.drop (1:Int).toNat),f0.2)) else(none)) else(if f0.1=2 then((spec_l20Rd_pick.f d4 s0_0 f0.2 (a5.length:Int)).bind fun f4=>((spec_l20Rd_pick.f d4 s0_0 f4.2 (wrap64 ((a5.length:Int)+1))).bind fun g7=>(if 0≤f4.1 then(if f4.1<(a5.length:Int) then(some (a3,(a5.set (f4.1:Int).toNat g7.1),g7.2)) else(none)) else(none)))) else(if 0≤(wrap64 ((a3.length:Int) - 1)) then(if(wrap64 ((a3.length:Int) - 1))<(a3.length:Int) then(if 0<((rd_L2 a3 (wrap64 ((a3.length:Int) - 1))).length:Int) then(some ((a3.set ((wrap64 ((a3.length:Int) - 1)):Int).toNat ((rd_L2 a3 (wrap64 ((a3.length:Int) - 1))).set (0:Int).toNat 1)),a5,f0.2)) else(none)) else(none)) else(none)))))) else(some (a3,a5,e3)))=some (r1,r2,r3):=H;have o2:=zqm a1y;clear a1y
        by_cases w9:a5a=true
        ·subst w9;(have H1:((spec_l20Rd_pick.f d4 s0_0 e3 4).bind fun f0=>(if f0.1=0 then(some (([]:List (List Int)),([]:List Int),f0.2)) else(if f0.1=1 then(if 1≤(a5.length:Int) then(some (a3,(a5.drop (1:Int).toNat),f0.2)) else(none)) else(if f0.1=2 then((spec_l20Rd_pick.f d4 s0_0 f0.2 (a5.length:Int)).bind fun f4=>((spec_l20Rd_pick.f d4 s0_0 f4.2 (wrap64 ((a5.length:Int)+1))).bind fun g7=>(if 0≤f4.1 then(if f4.1<(a5.length:Int) then(some (a3,(a5.set (f4.1:Int).toNat g7.1),g7.2)) else(none)) else(none)))) else(if 0≤(wrap64 ((a3.length:Int) - 1)) then(if(wrap64 ((a3.length:Int) - 1))<(a3.length:Int) then(if 0<((rd_L2 a3 (wrap64 ((a3.length:Int) - 1))).length:Int) then(some ((a3.set ((wrap64 ((a3.length:Int) - 1)):Int).toNat ((rd_L2 a3 (wrap64 ((a3.length:Int) - 1))).set (0:Int).toNat 1)),a5,f0.2)) else(none)) else(none)) else(none))))))=some (r1,r2,r3):=by rw [if_pos rfl] at H;exact H);clear H;have H:=H1;clear H1;replace H:=Option.bind_eq_some_iff.mp H;obtain⟨⟨e0,g0⟩,a1z,H⟩:=H;replace H:(if e0=0 then(some (([]:List (List Int)),([]:List Int),g0)) else(if e0=1 then(if 1≤(a5.length:Int) then(some (a3,(a5.drop (1:Int).toNat),g0)) else(none)) else(if e0=2 then((spec_l20Rd_pick.f d4 s0_0 g0 (a5.length:Int)).bind fun f4=>((spec_l20Rd_pick.f d4 s0_0 f4.2 (wrap64 ((a5.length:Int)+1))).bind fun g7=>(if 0≤f4.1 then(if f4.1<(a5.length:Int) then(some (a3,(a5.set (f4.1:Int).toNat g7.1),g7.2)) else(none)) else(none)))) else(if 0≤(wrap64 ((a3.length:Int) - 1)) then(if(wrap64 ((a3.length:Int) - 1))<(a3.length:Int) then(if 0<((rd_L2 a3 (wrap64 ((a3.length:Int) - 1))).length:Int) then(some ((a3.set ((wrap64 ((a3.length:Int) - 1)):Int).toNat ((rd_L2 a3 (wrap64 ((a3.length:Int) - 1))).set (0:Int).toNat 1)),a5,g0)) else(none)) else(none)) else(none)))))=some (r1,r2,r3):=H;have r4:=zqm a1z;clear a1z
         by_cases l7:e0=0
         ·rw [if_pos l7] at H;have a4o:(e0==0)=true:=beq_iff_eq.mpr l7;have a4p:(e0 !=0)=false:=bne_eq_false_iff_eq.mpr l7;clear l7;simp only [Option.some.injEq,Prod.mk.injEq] at H;obtain⟨rfl,rfl,rfl⟩:=H
          go_wp2_with (first|((with_reducible refine gate_callee (f:=45) rfl ?_);refine goesL_ (some 88) rfl rfl Try.func45 zqk rfl #[.pointer (some ⟨g,0,none⟩),.int .i64 a1] rfl zq5 ?_;(with_reducible refine(spec_l20Rd_odd.calls d4 g s0_0 e2 a1 true e3 w0 _ ?side1 ?side2 o2.out).mono ?_);(case side1=> exact zq1);(case side2=> exact zq3);rintro e c0r ⟨rfl,hi,hb,hk⟩;refine⟨_,rfl,?_⟩;replace HO_241000:=zqm (Kd.S_mono (Kd.S_keep (IsS61.apartS (show IsS61 w0 _ g s0_0 e2 from zq1) (zqfS HO_241000.out) (by decide)) hk (fun _ h=>h.2)) (fun _ h=>h.1));replace HO_241001:=zqm (Kd.Q_mono (Kd.Q_keep (IsS61.apartQ (show IsS61 w0 _ g s0_0 e2 from zq1) (zqfQ HO_241001.out) (by decide)) hk (fun _ h=>h.2)) (fun _ h=>h.1));replace a4:=zqm (KeepBut.blk hk (g':=b1) (o:= .cells #[.slice none 0 0,.slice none 0 0] 26 (0,0)) (zqe a4.out) c7.out (by simp));replace a0:=zqm (KeepBut.blk hk (g':=a8) (o:= .cells #[b8,b9] 26 (0,0)) (zqe a0.out) c2.out (by simp));replace HK:=zqm (KeepBut.trans zq0 hk (.inl rfl));replace HB:=zqm (hb);replace a2:=zqm (hi);clear hb hk hi)|((with_reducible refine gate_callee (f:=39) rfl ?_);refine goesL_ (some 90) rfl rfl Try.func39 zqk rfl #[.pointer (some ⟨g,0,none⟩),.int .i64 4] rfl zq5 ?_;(with_reducible refine(spec_l20Rd_pick.calls d4 g s0_0 e3 4 e0 g0 w0 _ ?side1 ?side2 r4.out).mono ?_);(case side1=> exact zq1);(case side2=> exact zq3);rintro e a5e ⟨rfl,hi,hb,hk⟩;refine⟨_,rfl,?_⟩;replace HO_241000:=zqm (Kd.S_mono (Kd.S_keep (IsS61.apartS (show IsS61 w0 _ g s0_0 e3 from zq1) (zqfS HO_241000.out) (by decide)) hk (fun _ h=>h.2)) (fun _ h=>h.1));replace HO_241001:=zqm (Kd.Q_mono (Kd.Q_keep (IsS61.apartQ (show IsS61 w0 _ g s0_0 e3 from zq1) (zqfQ HO_241001.out) (by decide)) hk (fun _ h=>h.2)) (fun _ h=>h.1));replace a4:=zqm (KeepBut.blk hk (g':=b1) (o:= .cells #[.slice none 0 0,.slice none 0 0] 26 (0,0)) (zqe a4.out) c7.out (by simp));replace a0:=zqm (KeepBut.blk hk (g':=a8) (o:= .cells #[b8,b9] 26 (0,0)) (zqe a0.out) c2.out (by simp));replace HK:=zqm (KeepBut.trans zq0 hk (.inl rfl));replace HB:=zqm (hb);replace a2:=zqm (hi);clear hb hk hi;have b6b:=b3.out;have b6z:=c6.out;have b6c:=c7.out;have b7a:=a7.out;have b0x:a5e.cell? ⟨b1,0,none⟩=some (.slice none 0 0):=(blk_cell a4.out 0).trans rfl;have b0y:a5e.cell? ⟨b1,1,none⟩=some (.slice none 0 0):=(blk_cell a4.out 1).trans rfl;have b2d:=blk_frozen a4.out 0;have b2e:=blk_frozen a4.out 1))
          refine bodyPost_ret (results_cell_row rfl _ _ b1 26 #[.slice none 0 0,.slice none 0 0] (0,0) _ rfl (by refine zqe ?_;refine blk_put (cs:= #[.slice none 0 0,.slice none 0 0]) ?_ 1 _ rfl;refine zqe ?_;refine blk_put (cs:= #[.slice none 0 0,.slice none 0 0]) ?_ 0 _ rfl;refine zqe ?_;exact a4.out) Try.underlying26 rfl zqk) rfl ?_;exact⟨_,_,zq17,zq65,Kd.Q_of_R zq64,zq1,zq3,zq0⟩
         ·rw [if_neg l7] at H;have a4o:(e0==0)=false:=beq_eq_false_iff_ne.mpr l7;have a4p:(e0 !=0)=true:=bne_iff_ne.mpr l7
          by_cases l8:e0=1
          ·rw [if_pos l8] at H;have a4q:(e0==1)=true:=beq_iff_eq.mpr l8;have a4r:(e0 !=1)=false:=bne_eq_false_iff_eq.mpr l8;clear l8
           by_cases r6:1≤(a5.length:Int)
           ·rw [if_pos r6] at H;have b5c:=eq_true r6;have b5d:decide (1≤(a5.length:Int))=true:=decide_eq_true r6;clear r6;obtain⟨h4,z1⟩: ∃y_:List Int,y_=(a5.drop (1:Int).toNat):=⟨_,rfl⟩;replace H:(some (a3,h4,g0))=some (r1,r2,r3):=zqy z1 H;have a2y:=zqm z1;clear z1;simp only [Option.some.injEq,Prod.mk.injEq] at H;obtain⟨rfl,rfl,rfl⟩:=H
            go_wp2_with (first|((with_reducible refine gate_callee (f:=45) rfl ?_);refine goesL_ (some 88) rfl rfl Try.func45 zqk rfl #[.pointer (some ⟨g,0,none⟩),.int .i64 a1] rfl zq5 ?_;(with_reducible refine(spec_l20Rd_odd.calls d4 g s0_0 e2 a1 true e3 w0 _ ?side1 ?side2 o2.out).mono ?_);(case side1=> exact zq1);(case side2=> exact zq3);rintro e c0s ⟨rfl,hi,hb,hk⟩;refine⟨_,rfl,?_⟩;replace HO_241000:=zqm (Kd.S_mono (Kd.S_keep (IsS61.apartS (show IsS61 w0 _ g s0_0 e2 from zq1) (zqfS HO_241000.out) (by decide)) hk (fun _ h=>h.2)) (fun _ h=>h.1));replace HO_241001:=zqm (Kd.Q_mono (Kd.Q_keep (IsS61.apartQ (show IsS61 w0 _ g s0_0 e2 from zq1) (zqfQ HO_241001.out) (by decide)) hk (fun _ h=>h.2)) (fun _ h=>h.1));replace a4:=zqm (KeepBut.blk hk (g':=b1) (o:= .cells #[.slice none 0 0,.slice none 0 0] 26 (0,0)) (zqe a4.out) c7.out (by simp));replace a0:=zqm (KeepBut.blk hk (g':=a8) (o:= .cells #[b8,b9] 26 (0,0)) (zqe a0.out) c2.out (by simp));replace HK:=zqm (KeepBut.trans zq0 hk (.inl rfl));replace HB:=zqm (hb);replace a2:=zqm (hi);clear hb hk hi)|((with_reducible refine gate_callee (f:=39) rfl ?_);refine goesL_ (some 90) rfl rfl Try.func39 zqk rfl #[.pointer (some ⟨g,0,none⟩),.int .i64 4] rfl zq5 ?_;(with_reducible refine(spec_l20Rd_pick.calls d4 g s0_0 e3 4 e0 g0 w0 _ ?side1 ?side2 r4.out).mono ?_);(case side1=> exact zq1);(case side2=> exact zq3);rintro e t3 ⟨rfl,hi,hb,hk⟩;refine⟨_,rfl,?_⟩;replace HO_241000:=zqm (Kd.S_mono (Kd.S_keep (IsS61.apartS (show IsS61 w0 _ g s0_0 e3 from zq1) (zqfS HO_241000.out) (by decide)) hk (fun _ h=>h.2)) (fun _ h=>h.1));replace HO_241001:=zqm (Kd.Q_mono (Kd.Q_keep (IsS61.apartQ (show IsS61 w0 _ g s0_0 e3 from zq1) (zqfQ HO_241001.out) (by decide)) hk (fun _ h=>h.2)) (fun _ h=>h.1));replace a4:=zqm (KeepBut.blk hk (g':=b1) (o:= .cells #[.slice none 0 0,.slice none 0 0] 26 (0,0)) (zqe a4.out) c7.out (by simp));replace a0:=zqm (KeepBut.blk hk (g':=a8) (o:= .cells #[b8,b9] 26 (0,0)) (zqe a0.out) c2.out (by simp));replace HK:=zqm (KeepBut.trans zq0 hk (.inl rfl));replace HB:=zqm (hb);replace a2:=zqm (hi);clear hb hk hi;have b6d:=c6.out;have b7b:=b3.out;have b6e:=c2.out;have b7c:=a6.out;have b0z:t3.cell? ⟨a8,0,none⟩=some (b8):=(blk_cell a0.out 0).trans rfl;have b1a:t3.cell? ⟨a8,1,none⟩=some (b9):=(blk_cell a0.out 1).trans rfl;have b2f:=blk_frozen a0.out 0;have b2g:=blk_frozen a0.out 1;obtain⟨m9,q6,a6q,_⟩:=Kd.Q_slice HO_241001.out;subst a6q;have a1k:(1:Int)≤((a5.length:Int):Int):=zqo;obtain⟨i0173,a0p,_,hsz173,_⟩:=info_parts info3;have hcut173:=cut_from (P:=Try.prog) 24 3 .i64 Try.underlying24 a0p 1 hsz173 m9 a5.length q6 1 (by omega) a1k;have hr173:=Kd.Q_drop (k:=(1:Int).toNat) HO_241001.out (by omega);obtain⟨k7,hA173⟩: ∃A1,A1=(if q6=(1:Int).toNat then m9 else(m9:Option Addr).map (·.add ((1:Int).toNat*1))):=⟨_,rfl⟩;obtain⟨k9,hc173⟩: ∃c1,c1=q6 - (1:Int).toNat:=⟨_,rfl⟩;have y6:h4.length=a5.length - (1:Int).toNat:=(by rw [a2y.out,List.length_drop]);rw [← a2y.out] at hr173;rw [← y6,← hA173,← hc173] at hcut173;replace hr173:Kd.Q (Kd.int .i64) 3 t3 w.heap.size (fun _=>True) (.slice k7 h4.length k9) h4:=(by rw [hA173,hc173,y6];exact hr173);have a5k:Aside0 ((Value.slice k7 h4.length k9).ownBlock=(.slice m9 a5.length q6:Value).ownBlock):=⟨by rw [hA173];split <;> (cases (m9:Option Addr) <;> rfl)⟩;clear y6 a0p hsz173 HO_241001 hA173 hc173;have a5n:=zqm hr173;clear hr173;replace a1k:=eq_true a1k;have n_:=zqm (Kd.S_mono (ok':=fun k_=>some k_≠(.slice k7 h4.length k9:Value).ownBlock) HO_241000.out (fun k_ hk=>(by rw [a5k.out];exact hk)));clear HO_241000;have HO_241000:=n_;clear n_;obtain⟨p9,q7,a6r⟩:=Kd.S_slice HO_241000.out;subst a6r;have b6f:=c7.out;have b7d:=a7.out;have b1b:t3.cell? ⟨b1,0,none⟩=some (.slice none 0 0):=(blk_cell a4.out 0).trans rfl;have b1c:t3.cell? ⟨b1,1,none⟩=some (.slice none 0 0):=(blk_cell a4.out 1).trans rfl;have b2h:=blk_frozen a4.out 0;have b2i:=blk_frozen a4.out 1))
            refine bodyPost_ret (results_cell_row rfl _ _ b1 26 #[.slice p9 a3.length q7,.slice k7 h4.length k9] (0,0) _ rfl (by refine zqe ?_;refine blk_put (cs:= #[.slice p9 a3.length q7,.slice none 0 0]) ?_ 1 _ rfl;refine zqe ?_;refine blk_put (cs:= #[.slice none 0 0,.slice none 0 0]) ?_ 0 _ rfl;refine zqe ?_;refine blk_far ?_ b3.out _;refine zqe ?_;exact a4.out) Try.underlying26 rfl zqk) rfl ?_;exact⟨_,_,zq17,by refine zqfS ?_;exact Kd.S_mono (Kd.S_far (p:=⟨b1,1,none⟩) (Kd.S_far (p:=⟨b1,0,none⟩) (Kd.S_far (p:=⟨a8,1,none⟩) (Kd.S_types (Kd.S_types HO_241000.out a0.out (by decide)) a4.out (by decide)) (fun _ hk=>hk.1.2) (.slice k7 h4.length k9)) (fun _ hk=>hk.2) (.slice p9 a3.length q7)) (fun _ hk=>hk.2) (.slice k7 h4.length k9)) (fun _ hk=>hk.1.1),by refine zqfQ ?_;exact Kd.Q_mono (Kd.Q_far (p:=⟨b1,1,none⟩) (Kd.Q_far (p:=⟨b1,0,none⟩) (Kd.Q_far (p:=⟨a8,1,none⟩) (Kd.Q_types (Kd.Q_types a5n.out a0.out (by decide)) a4.out (by decide)) (fun _ hk=>hk.1.2) (.slice k7 h4.length k9)) (fun _ hk=>hk.2) (.slice p9 a3.length q7)) (fun _ hk=>hk.2) (.slice k7 h4.length k9)) (fun _ hk=>trivial),zq1,zq3,zq0⟩
           ·rw [if_neg r6] at H;exact absurd H (by simp)
          ·rw [if_neg l8] at H;have a4q:(e0==1)=false:=beq_eq_false_iff_ne.mpr l8;have a4r:(e0 !=1)=true:=bne_iff_ne.mpr l8
           by_cases l9:e0=2
           ·rw [if_pos l9] at H;have a4s:(e0==2)=true:=beq_iff_eq.mpr l9;have a4t:(e0 !=2)=false:=bne_eq_false_iff_eq.mpr l9;clear l9;replace H:=Option.bind_eq_some_iff.mp H;obtain⟨⟨d3,t2⟩,a2a,H⟩:=H;replace H:((spec_l20Rd_pick.f d4 s0_0 t2 (wrap64 ((a5.length:Int)+1))).bind fun g7=>(if 0≤d3 then(if d3<(a5.length:Int) then(some (a3,(a5.set (d3:Int).toNat g7.1),g7.2)) else(none)) else(none)))=some (r1,r2,r3):=H;have a7p:=zqm a2a;clear a2a;replace H:=Option.bind_eq_some_iff.mp H;obtain⟨⟨g9,a0j⟩,a2b,H⟩:=H;replace H:(if 0≤d3 then(if d3<(a5.length:Int) then(some (a3,(a5.set (d3:Int).toNat g9),a0j)) else(none)) else(none))=some (r1,r2,r3):=H;have a7q:=zqm a2b;clear a2b
            by_cases x0:0≤d3
            ·rw [if_pos x0] at H;have b5e:decide (0≤d3)=true:=decide_eq_true x0;clear x0
             by_cases x1:d3<(a5.length:Int)
             ·rw [if_pos x1] at H;have b5f:decide (d3<(a5.length:Int))=true:=decide_eq_true x1;clear x1;obtain⟨a5h,z2⟩: ∃y_:List Int,y_=(a5.set (d3:Int).toNat g9):=⟨_,rfl⟩;replace H:(some (a3,a5h,a0j))=some (r1,r2,r3):=zqy z2 H;have a5r:=zqm z2;clear z2;simp only [Option.some.injEq,Prod.mk.injEq] at H;obtain⟨rfl,rfl,rfl⟩:=H;(try go_wp2_with (first|((with_reducible refine gate_callee (f:=45) rfl ?_);refine goesL_ (some 88) rfl rfl Try.func45 zqk rfl #[.pointer (some ⟨g,0,none⟩),.int .i64 a1] rfl zq5 ?_;(with_reducible refine(spec_l20Rd_odd.calls d4 g s0_0 e2 a1 true e3 w0 _ ?side1 ?side2 o2.out).mono ?_);(case side1=> exact zq1);(case side2=> exact zq3);rintro e c0t ⟨rfl,hi,hb,hk⟩;refine⟨_,rfl,?_⟩;replace HO_241000:=zqm (Kd.S_mono (Kd.S_keep (IsS61.apartS (show IsS61 w0 _ g s0_0 e2 from zq1) (zqfS HO_241000.out) (by decide)) hk (fun _ h=>h.2)) (fun _ h=>h.1));replace HO_241001:=zqm (Kd.Q_mono (Kd.Q_keep (IsS61.apartQ (show IsS61 w0 _ g s0_0 e2 from zq1) (zqfQ HO_241001.out) (by decide)) hk (fun _ h=>h.2)) (fun _ h=>h.1));replace a4:=zqm (KeepBut.blk hk (g':=b1) (o:= .cells #[.slice none 0 0,.slice none 0 0] 26 (0,0)) (zqe a4.out) c7.out (by simp));replace a0:=zqm (KeepBut.blk hk (g':=a8) (o:= .cells #[b8,b9] 26 (0,0)) (zqe a0.out) c2.out (by simp));replace HK:=zqm (KeepBut.trans zq0 hk (.inl rfl));replace HB:=zqm (hb);replace a2:=zqm (hi);clear hb hk hi)|((with_reducible refine gate_callee (f:=39) rfl ?_);refine goesL_ (some 90) rfl rfl Try.func39 zqk rfl #[.pointer (some ⟨g,0,none⟩),.int .i64 4] rfl zq5 ?_;(with_reducible refine(spec_l20Rd_pick.calls d4 g s0_0 e3 4 e0 g0 w0 _ ?side1 ?side2 r4.out).mono ?_);(case side1=> exact zq1);(case side2=> exact zq3);rintro e b2x ⟨rfl,hi,hb,hk⟩;refine⟨_,rfl,?_⟩;replace HO_241000:=zqm (Kd.S_mono (Kd.S_keep (IsS61.apartS (show IsS61 w0 _ g s0_0 e3 from zq1) (zqfS HO_241000.out) (by decide)) hk (fun _ h=>h.2)) (fun _ h=>h.1));replace HO_241001:=zqm (Kd.Q_mono (Kd.Q_keep (IsS61.apartQ (show IsS61 w0 _ g s0_0 e3 from zq1) (zqfQ HO_241001.out) (by decide)) hk (fun _ h=>h.2)) (fun _ h=>h.1));replace a4:=zqm (KeepBut.blk hk (g':=b1) (o:= .cells #[.slice none 0 0,.slice none 0 0] 26 (0,0)) (zqe a4.out) c7.out (by simp));replace a0:=zqm (KeepBut.blk hk (g':=a8) (o:= .cells #[b8,b9] 26 (0,0)) (zqe a0.out) c2.out (by simp));replace HK:=zqm (KeepBut.trans zq0 hk (.inl rfl));replace HB:=zqm (hb);replace a2:=zqm (hi);clear hb hk hi)));replace HO_241000:=zqm (Kd.S_drew HO_241000.out);replace HO_241001:=zqm (Kd.Q_drew HO_241001.out);replace a4:=zqm (blk_drew a4.out);replace a0:=zqm (blk_drew a0.out);replace a2:=zqm (IsS61.drew a2.out);replace HK:=zqm (keep_drew HK.out);replace HB:=zqm (below_drew1 HB.out);obtain⟨u5,h0,a3m,_⟩:=Kd.Q_slice HO_241001.out;(first|subst a3m|(injection a3m with f1_ f2_ f3_;have f4_:=f1_.symm;have f5_:=f3_.symm;clear f1_ f2_ f3_;subst f4_;subst f5_))
              refine start_ (n:=15) (S:=fun w'=>w'.cell? ⟨a8,0,none⟩=some (b8)∧w'.cell? ⟨a8,1,none⟩=some (.slice u5 a5.length h0)) (ds:= [14]) (zqb 15 0) zqk rfl rfl ⟨(blk_cell a0.out 0).trans rfl,(blk_cell a0.out 1).trans rfl⟩ (fun hHeld=>?_);refine with_tabW spec_l20Logic.tab39 spec_l20Logic.bits39 (fun HT_ HW_=>?_);generalize b2x.drew=c0u at HO_241000 HO_241001 a4 a0 a2 HK HB hHeld ⊢;refine zqp 0 111 (zqb 15 1) HT_ ?_;refine zqp 2 113 (zqb 15 5) HT_ ?_;refine zqp 3 114 (zqb 15 13) HT_ ?_;refine zqp 7 118 (zqb 15 141) HT_ ?_;refine zqp 8 119 (zqb 15 397) HT_ ?_;refine zqw 1 112 (zqb 15 399) HT_ HW_ hHeld ?_;refine zqw 4 115 (zqb 15 415) HT_ HW_ hHeld ?_;refine zqp 5 116 (zqb 15 447) HT_ ?_;refine zqw 9 120 (zqb 15 959) HT_ HW_ hHeld ?_;refine zqp 10 121 (zqb 15 1983) HT_ ?_;refine zqp 11 122 (zqb 15 4031) HT_ ?_;refine one_ (i:=6) (N:=some 117) (zqb 15 4095) rfl rfl (one_of HT_.out zqk) (by decide) (fun K hK=>?_);refine goes_ Try.func39 zqk rfl #[.pointer (some ⟨g,0,none⟩),.int .i64 (a5.length:Int)] (by rfl) rfl rfl zq5 ?_;(with_reducible refine(spec_l20Rd_pick.calls d4 g s0_0 g0 (a5.length:Int) d3 t2 w0 _ ?side1 ?side2 a7p.out).mono ?_);(case side1=> exact zq1);(case side2=> exact zq3);rintro e c0v ⟨rfl,hi,hb,hk⟩;refine⟨_,rfl,?_⟩;replace HO_241000:=zqm (Kd.S_mono (Kd.S_keep (IsS61.apartS (show IsS61 w0 _ g s0_0 g0 from zq1) (zqfS HO_241000.out) (by decide)) hk (fun _ h=>h.2)) (fun _ h=>h.1));replace HO_241001:=zqm (Kd.Q_mono (Kd.Q_keep (IsS61.apartQ (show IsS61 w0 _ g s0_0 g0 from zq1) (zqfQ HO_241001.out) (by decide)) hk (fun _ h=>h.2)) (fun _ h=>h.1));replace a4:=zqm (KeepBut.blk hk (g':=b1) (o:= .cells #[.slice none 0 0,.slice none 0 0] 26 (0,0)) (zqe a4.out) c7.out (by simp));replace a0:=zqm (KeepBut.blk hk (g':=a8) (o:= .cells #[b8,.slice u5 a5.length h0] 26 (0,0)) (zqe a0.out) c2.out (by simp));replace HK:=zqm (KeepBut.trans zq0 hk (.inl rfl));replace HB:=zqm (hb);replace a2:=zqm (hi);clear hb hk hi;refine hK.out _ _ ⟨(blk_cell a0.out 0).trans rfl,(blk_cell a0.out 1).trans rfl⟩ (fun hHeld=>?_);clear hK K;refine norm_ (a':=?_) ?_ ?_;rotate_left
              ·show Act.put _ (some 117) _=_;exact zqs
              refine one_ (i:=12) (N:=some 123) (zqb 15 8191) rfl rfl (one_of HT_.out zqk) (by decide) (fun K hK=>?_);refine goes_ Try.func39 zqk rfl #[.pointer (some ⟨g,0,none⟩),.int .i64 (wrap64 ((a5.length:Int)+1))] (by rfl) rfl rfl zq5 ?_;(with_reducible refine(spec_l20Rd_pick.calls d4 g s0_0 t2 (wrap64 ((a5.length:Int)+1)) g9 a0j w0 _ ?side1 ?side2 a7q.out).mono ?_);(case side1=> exact zq1);(case side2=> exact zq3);rintro e l3 ⟨rfl,hi,hb,hk⟩;refine⟨_,rfl,?_⟩;replace HO_241000:=zqm (Kd.S_mono (Kd.S_keep (IsS61.apartS (show IsS61 w0 _ g s0_0 t2 from zq1) (zqfS HO_241000.out) (by decide)) hk (fun _ h=>h.2)) (fun _ h=>h.1));replace HO_241001:=zqm (Kd.Q_mono (Kd.Q_keep (IsS61.apartQ (show IsS61 w0 _ g s0_0 t2 from zq1) (zqfQ HO_241001.out) (by decide)) hk (fun _ h=>h.2)) (fun _ h=>h.1));replace a4:=zqm (KeepBut.blk hk (g':=b1) (o:= .cells #[.slice none 0 0,.slice none 0 0] 26 (0,0)) (zqe a4.out) c7.out (by simp));replace a0:=zqm (KeepBut.blk hk (g':=a8) (o:= .cells #[b8,.slice u5 a5.length h0] 26 (0,0)) (zqe a0.out) c2.out (by simp));replace HK:=zqm (KeepBut.trans zq0 hk (.inl rfl));replace HB:=zqm (hb);replace a2:=zqm (hi);clear hb hk hi;have a1f:0≤(d3:Int):=zqo;have a1l:(d3:Int)<((a5.length:Int):Int):=zqo;obtain⟨d9,e5,b8c,a3l,a3q,a6z,b7z,a2e⟩:=Kd.Q_form HO_241001.out (by omega);(first|cases a3l|(injection a3l with ea_ en_ ec_;(first|subst ea_|(injection ea_ with ea_;subst ea_));subst ec_;clear en_));have GB182:=zqm a3q;have GG182:=zqm a2e;clear a3q a6z a2e;obtain⟨b4b,b3m⟩:=Kd.Q_cell 0 HO_241001.out (d3:Int) a1f a1l;replace a1f:=eq_true a1f;replace a1l:=eq_true a1l;have HN0_go182:=zqm (show g≠d9 from by have h_:=IsS61.own_neQ a2.out HO_241001.out (by decide);intro e_;exact h_ (by rw [e_];rfl));have HP189:=(Kd.Q_putg HO_241001.out (d3:Int) (zqo) (by have h_:(d3:Int)<((a5.length:Int):Int):=zqo;first|exact h_|(have e_:=(Kd.Q_reads' HO_241001.out).1;omega)|simpa using h_) g9).1;rw [← a5r.out] at HP189;have HQ189:=zqm HP189;clear HP189;refine hK.out _ _ ⟨(blk_cell a0.out 0).trans rfl,(blk_cell a0.out 1).trans rfl⟩ (fun hHeld=>?_);clear hK K;refine norm_ (a':=?_) ?_ ?_;rotate_left
              ·show Act.put _ (some 123) _=_;exact zqs
              refine zqp 13 124 (zqb 15 16383) HT_ ?_;refine last_ (i:=14) (N:=none) (zqb 15 32767) rfl rfl (one_of HT_.out zqk) (by decide) (fun K hK=>?_);refine skip_ (w1:=?_) (by rfl) rfl ?_ ?_;rotate_left
              ·go_simp;rfl
              refine hK.out _ _ ?_;clear hK K;refine done_ (done_of HT_.out zqk) ?_;have c8:Aside0 (Kd.S (Kd.slice 3 (Kd.int .i64)) 24 (l3.setCell ⟨d9,e5+(d3:Int).toNat,none⟩ (.int .i64 g9)) w.heap.size (fun k_=>some k_≠(.slice (some ⟨d9,e5,none⟩) a5.length h0:Value).ownBlock) b8 a3):=⟨by refine zqfS ?_;exact Kd.S_mono (Kd.S_far (p:=⟨d9,e5+(d3:Int).toNat,none⟩) (Kd.S_mono HO_241000.out (fun k_ hk=>(⟨hk,fun e_=>hk (by rw [e_];rfl)⟩:_∧k_≠d9))) (fun _ hk=>hk.2) (.int .i64 g9)) (fun _ hk=>hk.1)⟩;have d0:Aside0 (Kd.Q (Kd.int .i64) 3 (l3.setCell ⟨d9,e5+(d3:Int).toNat,none⟩ (.int .i64 g9)) w.heap.size (fun _=>True) (.slice (some ⟨d9,e5,none⟩) a5.length h0) a5h):=⟨zqfQ HQ189.out⟩;have e6:Aside0 ((l3.setCell ⟨d9,e5+(d3:Int).toNat,none⟩ (.int .i64 g9)).heap[b1]? =some (.cells #[.slice none 0 0,.slice none 0 0] 26 (0,0))):=⟨by refine zqe ?_;refine blk_far ?_ (by have h_:=Kd.Q_ne HO_241001.out a4.out (by decide);intro e_;exact h_ (by rw [e_];rfl)) _;refine zqe ?_;exact a4.out⟩;have f9:Aside0 ((l3.setCell ⟨d9,e5+(d3:Int).toNat,none⟩ (.int .i64 g9)).heap[a8]? =some (.cells #[b8,.slice (some ⟨d9,e5,none⟩) a5.length h0] 26 (0,0))):=⟨by refine zqe ?_;refine blk_far ?_ (by have h_:=Kd.Q_ne HO_241001.out a0.out (by decide);intro e_;exact h_ (by rw [e_];rfl)) _;refine zqe ?_;exact a0.out⟩;have d6:Aside0 (IsS61 w0 (l3.setCell ⟨d9,e5+(d3:Int).toNat,none⟩ (.int .i64 g9)) g s0_0 a0j):=⟨by repeat(first|(with_reducible first|exact a2.out|apply IsS61.alloc|apply IsS61.drewN|apply IsS61.drew|apply IsS61.set_1|refine IsS61.far ?_ HN0_go182.out _|refine IsS61.far ?_ a7.out _|refine IsS61.far ?_ a6.out _)|exact a2.out)⟩;have k6:Aside0 (KeepBut w (l3.setCell ⟨d9,e5+(d3:Int).toNat,none⟩ (.int .i64 g9)) g none):=⟨by repeat(first|(with_reducible first|exact HK.out|apply KeepBut.set_|apply keep_drewN|apply keep_drew|apply keep_alloc|refine keep_far ?_ GB182.out _|refine keep_far ?_ a9.out _|refine keep_far ?_ b0.out _)|exact HK.out)⟩;have g8:Aside0 (Below w0.heap.size w0 (l3.setCell ⟨d9,e5+(d3:Int).toNat,none⟩ (.int .i64 g9))):=⟨by repeat(first|(with_reducible first|exact HB.out|apply below_alloc|apply pw_below_drewN|apply below_drew1|refine below_set ?_ (Nat.le_trans HL.out GB182.out)|refine below_set ?_ (IsS61.ge a2.out)|refine below_set ?_ b4.out|refine below_set ?_ b5.out)|exact HB.out)⟩;generalize (l3.setCell ⟨d9,e5+(d3:Int).toNat,none⟩ (.int .i64 g9))=a0k at c8 d0 e6 f9 d6 k6 g8 ⊢;have HO_241000:=c8;have HO_241001:=d0;have a4:=e6;have a0:=f9;have a2:=d6;have HK:=k6;have HB:=g8;clear c8 d0 e6 f9 d6 k6 g8;have b6g:=c6.out;have b7e:=b3.out;have b6h:=c2.out;have b7f:=a6.out;have b1d:a0k.cell? ⟨a8,0,none⟩=some (b8):=(blk_cell a0.out 0).trans rfl;have b1e:a0k.cell? ⟨a8,1,none⟩=some (.slice (some ⟨d9,e5,none⟩) a5.length h0):=(blk_cell a0.out 1).trans rfl;have b2j:=blk_frozen a0.out 0;have b2k:=blk_frozen a0.out 1;obtain⟨q0,q8,a6s⟩:=Kd.S_slice HO_241000.out;subst a6s;have b6i:=c7.out;have b7g:=a7.out;have b1f:a0k.cell? ⟨b1,0,none⟩=some (.slice none 0 0):=(blk_cell a4.out 0).trans rfl;have b1g:a0k.cell? ⟨b1,1,none⟩=some (.slice none 0 0):=(blk_cell a4.out 1).trans rfl;have b2l:=blk_frozen a4.out 0;have b2m:=blk_frozen a4.out 1;(try go_wp2);refine bodyPost_ret (results_cell_row rfl _ _ b1 26 #[.slice q0 a3.length q8,.slice (some ⟨d9,e5,none⟩) a5.length h0] (0,0) _ rfl (by refine zqe ?_;refine blk_put (cs:= #[.slice q0 a3.length q8,.slice none 0 0]) ?_ 1 _ rfl;refine zqe ?_;refine blk_put (cs:= #[.slice none 0 0,.slice none 0 0]) ?_ 0 _ rfl;refine zqe ?_;exact a4.out) Try.underlying26 rfl zqk) rfl ?_;exact⟨_,_,zq17,by refine zqfS ?_;exact Kd.S_mono (Kd.S_far (p:=⟨b1,1,none⟩) (Kd.S_far (p:=⟨b1,0,none⟩) (Kd.S_types HO_241000.out a4.out (by decide)) (fun _ hk=>hk.2) (.slice q0 a3.length q8)) (fun _ hk=>hk.2) (.slice (some ⟨d9,e5,none⟩) a5.length h0)) (fun _ hk=>hk.1),by refine zqfQ ?_;exact Kd.Q_mono (Kd.Q_far (p:=⟨b1,1,none⟩) (Kd.Q_far (p:=⟨b1,0,none⟩) (Kd.Q_types HO_241001.out a4.out (by decide)) (fun _ hk=>hk.2) (.slice q0 a3.length q8)) (fun _ hk=>hk.2) (.slice (some ⟨d9,e5,none⟩) a5.length h0)) (fun _ hk=>trivial),zq1,zq3,zq0⟩
             ·rw [if_neg x1] at H;exact absurd H (by simp)
            ·rw [if_neg x0] at H;exact absurd H (by simp)
           ·rw [if_neg l9] at H;have a4s:(e0==2)=false:=beq_eq_false_iff_ne.mpr l9;have a4t:(e0 !=2)=true:=bne_iff_ne.mpr l9;obtain⟨c9,i5⟩: ∃j_:Int,(wrap64 ((a3.length:Int) - 1))=j_:=⟨_,rfl⟩;(replace H:(if 0≤(c9) then(if(c9)<(a3.length:Int) then(if 0<((rd_L2 a3 (c9)).length:Int) then(some ((a3.set ((c9):Int).toNat ((rd_L2 a3 (c9)).set (0:Int).toNat 1)),a5,g0)) else(none)) else(none)) else(none))=some (r1,r2,r3):=by first|(rw [i5] at H;exact H)|(simp only [i5] at H ⊢;exact H));(try rw [i5] at o2);(try rw [i5] at r4);have b3y:(IntKind.i64.wrap ((a3.length:Int) - 1))=c9:=(i64_w _).trans i5
            by_cases x2:0≤(c9)
            ·rw [if_pos x2] at H;have b5g:decide (0≤(c9))=true:=decide_eq_true x2;clear x2
             by_cases x3:(c9)<(a3.length:Int)
             ·rw [if_pos x3] at H;have b5h:decide ((c9)<(a3.length:Int))=true:=decide_eq_true x3;clear x3
              by_cases x4:0<((rd_L2 a3 (c9)).length:Int)
              ·rw [if_pos x4] at H;have b5i:decide (0<((rd_L2 a3 (c9)).length:Int))=true:=decide_eq_true x4;have b5j:decide (0<(rd_L2 a3 (c9)).length)=true:=decide_eq_true (by omega);clear x4;obtain⟨a1t,z3⟩: ∃y_:List Int,y_=((rd_L2 a3 (c9)).set (0:Int).toNat 1):=⟨_,rfl⟩;replace H:(some ((a3.set ((c9):Int).toNat a1t),a5,g0))=some (r1,r2,r3):=zqy z3 H;have a5s:=zqm z3;clear z3;obtain⟨a5i,z4⟩: ∃y_:List (List Int),y_=(a3.set ((c9):Int).toNat a1t):=⟨_,rfl⟩;replace H:(some (a5i,a5,g0))=some (r1,r2,r3):=zqy z4 H;have a5t:=zqm z4;clear z4;simp only [Option.some.injEq,Prod.mk.injEq] at H;obtain⟨rfl,rfl,rfl⟩:=H
               go_wp2_with (first|((with_reducible refine gate_callee (f:=45) rfl ?_);refine goesL_ (some 88) rfl rfl Try.func45 zqk rfl #[.pointer (some ⟨g,0,none⟩),.int .i64 a1] rfl zq5 ?_;(with_reducible refine(spec_l20Rd_odd.calls d4 g s0_0 e2 a1 true e3 w0 _ ?side1 ?side2 o2.out).mono ?_);(case side1=> exact zq1);(case side2=> exact zq3);rintro e c0w ⟨rfl,hi,hb,hk⟩;refine⟨_,rfl,?_⟩;replace HO_241000:=zqm (Kd.S_mono (Kd.S_keep (IsS61.apartS (show IsS61 w0 _ g s0_0 e2 from zq1) (zqfS HO_241000.out) (by decide)) hk (fun _ h=>h.2)) (fun _ h=>h.1));replace HO_241001:=zqm (Kd.Q_mono (Kd.Q_keep (IsS61.apartQ (show IsS61 w0 _ g s0_0 e2 from zq1) (zqfQ HO_241001.out) (by decide)) hk (fun _ h=>h.2)) (fun _ h=>h.1));replace a4:=zqm (KeepBut.blk hk (g':=b1) (o:= .cells #[.slice none 0 0,.slice none 0 0] 26 (0,0)) (zqe a4.out) c7.out (by simp));replace a0:=zqm (KeepBut.blk hk (g':=a8) (o:= .cells #[b8,b9] 26 (0,0)) (zqe a0.out) c2.out (by simp));replace HK:=zqm (KeepBut.trans zq0 hk (.inl rfl));replace HB:=zqm (hb);replace a2:=zqm (hi);clear hb hk hi)|((with_reducible refine gate_callee (f:=39) rfl ?_);refine goesL_ (some 90) rfl rfl Try.func39 zqk rfl #[.pointer (some ⟨g,0,none⟩),.int .i64 4] rfl zq5 ?_;(with_reducible refine(spec_l20Rd_pick.calls d4 g s0_0 e3 4 e0 g0 w0 _ ?side1 ?side2 r4.out).mono ?_);(case side1=> exact zq1);(case side2=> exact zq3);rintro e a0l ⟨rfl,hi,hb,hk⟩;refine⟨_,rfl,?_⟩;replace HO_241000:=zqm (Kd.S_mono (Kd.S_keep (IsS61.apartS (show IsS61 w0 _ g s0_0 e3 from zq1) (zqfS HO_241000.out) (by decide)) hk (fun _ h=>h.2)) (fun _ h=>h.1));replace HO_241001:=zqm (Kd.Q_mono (Kd.Q_keep (IsS61.apartQ (show IsS61 w0 _ g s0_0 e3 from zq1) (zqfQ HO_241001.out) (by decide)) hk (fun _ h=>h.2)) (fun _ h=>h.1));replace a4:=zqm (KeepBut.blk hk (g':=b1) (o:= .cells #[.slice none 0 0,.slice none 0 0] 26 (0,0)) (zqe a4.out) c7.out (by simp));replace a0:=zqm (KeepBut.blk hk (g':=a8) (o:= .cells #[b8,b9] 26 (0,0)) (zqe a0.out) c2.out (by simp));replace HK:=zqm (KeepBut.trans zq0 hk (.inl rfl));replace HB:=zqm (hb);replace a2:=zqm (hi);clear hb hk hi;have b6j:=c6.out;have b7h:=b3.out;have b6k:=c2.out;have b7i:=a6.out;have b1h:a0l.cell? ⟨a8,0,none⟩=some (b8):=(blk_cell a0.out 0).trans rfl;have b1i:a0l.cell? ⟨a8,1,none⟩=some (b9):=(blk_cell a0.out 1).trans rfl;have b2n:=blk_frozen a0.out 0;have b2o:=blk_frozen a0.out 1;obtain⟨b7q,j9,a6t⟩:=Kd.S_slice HO_241000.out;subst a6t;have z5:0≤((c9):Int):=zqo;have z6:(c9)<(a3.length:Int):=zqo;obtain⟨j7,b4j,a4u,a9g,u0,t8,t7⟩:=at_L2 (Kd.S_reads' HO_241000.out).2.2 (c9) z5 z6;cases a9g;obtain⟨b7w,a4w,a4v,a0o⟩:=Kd.S_get HO_241000.out [] (c9) z5 (by first|exact z6|exact zqo|(have e_:=(Kd.S_reads' HO_241000.out).1;omega));obtain⟨b4d,rfl,o6⟩:=a4v;have i6:=a0o 0 _ rfl;rw [Nat.add_zero,show ((Kd.slice 3 (Kd.int .i64))).sz=1 from rfl,Nat.mul_one] at i6;replace i6:=Option.some.inj (i6.symm.trans u0);rw [i6] at o6;have g1:=zqm (show Kd.R (Kd.int .i64) 3 _ _ _ _ (rd_L2 a3 (c9)) from o6);clear i6 o6;have HX378_0:=zqm u0;clear a0o a4w;have b2z:=zqm t7;have b2y:=zqm t8;clear t7 t8;replace z5:=eq_true z5;replace z6:=eq_true z6;have a1g:0≤(0:Int):=(by omega);have a1m:(0:Int)<(((rd_L2 a3 (c9)).length:Int):Int):=zqo;have b8y:(0<(rd_L2 a3 (c9)).length)=True:=eq_true (by omega);obtain⟨y5,b8d,a3n,a3r,a7a,b8a,a2f⟩:=Kd.R_form g1.out (by omega);(first|cases a3n|(injection a3n with ea_ en_ ec_;(first|subst ea_|(injection ea_ with ea_;subst ea_));subst ec_;clear en_));have GB201:=zqm a3r;have GG201:=zqm a2f;clear a3r a7a a2f;obtain⟨t9,t6⟩:=Kd.R_celln 0 g1.out (0:Int) a1g a1m;(try rw [show ((0:Int)).toNat=0 from rfl] at t9);(try simp only [Nat.reduceMul,Nat.zero_mul,Nat.zero_add,Nat.reduceAdd] at t9);(try rw [show ((0:Int)).toNat=0 from rfl] at t6);(try simp only [Nat.reduceMul,Nat.zero_mul,Nat.zero_add,Nat.reduceAdd] at t6);replace a1g:=eq_true a1g;replace a1m:=eq_true a1m;have hq208:((c9):Int)<(a3.length:Int):=(by have h_:((c9):Int)<((a3.length:Int):Int):=zqo;first|exact h_|(have e_:=(Kd.S_reads' HO_241000.out).1;omega)|simpa only [List.length_set,List.length_set] using h_);obtain⟨oki208,b7v,hcl208,hM208,a0n,hok208,hbk208⟩:=Kd.S_borrow HO_241000.out [] ((c9):Int) (zqo) hq208;obtain⟨b4c,rfl,l5⟩:=hM208;have r0:=a0n 0 _ rfl;rw [Nat.add_zero,show ((Kd.slice 3 (Kd.int .i64))).sz=1 from rfl,Nat.mul_one] at r0;replace r0:=Option.some.inj (r0.symm.trans HX378_0.out);subst r0;clear a0n hcl208;replace l5:=(show Kd.R (Kd.int .i64) 3 _ _ _ _ (rd_L2 a3 (c9)) from l5);have HP208:=Kd.R_putg l5 (0:Int) 1)|((with_reducible refine gate_store (t:=3) (p:=99) rfl ?_);refine store_event (t:=3) (p:=99) (v:=?vo_w209) (w1:=(a0l.setCell ⟨y5,0,none⟩ (.int .i64 1))) ?hg ?ho ?hn ?hr ?_;(case ho=>rfl);(case hg=>rfl);(case hn=>rfl);(case hr=> exact zq15);intro l4 hw;have hg:a0l.grownBy l4 (some y5):=(by rw [hw];exact HP208.2);have hz_:Kd.R (Kd.int .i64) 3 l4 w.heap.size oki208 (.slice (some ⟨y5,0,none⟩) (rd_L2 a3 (c9)).length a4u) a1t:=(by rw [hw,a5s.out];exact HP208.1);have hp_:Kd.S (Kd.slice 3 (Kd.int .i64)) 24 l4 w.heap.size (fun k_=>some k_≠(b9:Value).ownBlock) (.slice (some j7) a3.length j9) a5i:=(by rw [a5t.out];exact hbk208 hg (fun k_ e_=>by injection e_ with e_;subst e_;exact l5.1 _ rfl) (Kd.M_row hz_));have hm_:=Kd.R_mono hz_ hok208;clear HP208 hbk208;replace HO_241000:=zqm (hp_);replace HO_241001:=zqm (Kd.Q_grown1 (zqfQ HO_241001.out) rfl hg ((g1.out.1 _ rfl).1));replace a4:=zqm (blk_grown (g:=b1) (o:= .cells #[.slice none 0 0,.slice none 0 0] 26 (0,0)) (zqe a4.out) hg (Kd.R_ne g1.out a4.out (by decide)));replace a0:=zqm (blk_grown (g:=a8) (o:= .cells #[.slice (some j7) a3.length j9,b9] 26 (0,0)) (zqe a0.out) hg (Kd.R_ne g1.out a0.out (by decide)));replace a2:=zqm (IsS61.grown zq1 hg (IsS61.own_ne a2.out g1.out (by decide)));replace HB:=zqm ((by rw [hw];exact below_set (HB.out) (Nat.le_trans HL.out GB201.out):Below w0.heap.size w0 l4));replace HK:=zqm (KeepBut.trans zq0 (KeepBut.of_grown hg g) (Kd.R_base2 g1.out));have b7t:=zqm (hm_);have b7r:=zqm ((Kd.R_reads' hm_).2.1);clear g1;clear hg hw hp_ hz_ hm_ hok208;have b1j:l4.cell? ⟨a8,0,none⟩=some (.slice (some j7) a3.length j9):=(blk_cell a0.out 0).trans rfl;have b1k:l4.cell? ⟨a8,1,none⟩=some (b9):=(blk_cell a0.out 1).trans rfl;have b2p:=blk_frozen a0.out 0;have b2q:=blk_frozen a0.out 1;have b6l:=c7.out;have b7j:=a7.out;have b1l:l4.cell? ⟨b1,0,none⟩=some (.slice none 0 0):=(blk_cell a4.out 0).trans rfl;have b1m:l4.cell? ⟨b1,1,none⟩=some (.slice none 0 0):=(blk_cell a4.out 1).trans rfl;have b2r:=blk_frozen a4.out 0;have b2s:=blk_frozen a4.out 1;obtain⟨u7,x9,a6u,_⟩:=Kd.Q_slice HO_241001.out;subst a6u))
               refine bodyPost_ret (results_cell_row rfl _ _ b1 26 #[.slice (some j7) a3.length j9,.slice u7 a5.length x9] (0,0) _ rfl (by refine zqe ?_;refine blk_put (cs:= #[.slice (some j7) a3.length j9,.slice none 0 0]) ?_ 1 _ rfl;refine zqe ?_;refine blk_put (cs:= #[.slice none 0 0,.slice none 0 0]) ?_ 0 _ rfl;refine zqe ?_;exact a4.out) Try.underlying26 rfl zqk) rfl ?_;exact⟨_,_,by first|rfl|(simp [errW_none,errW_some] <;> rfl)|(simp only [← i5];first|rfl|(simp [errW_none,errW_some] <;> rfl))|(simp [*,errW_none,errW_some] <;> rfl),by refine zqfS ?_;exact Kd.S_mono (Kd.S_far (p:=⟨b1,1,none⟩) (Kd.S_far (p:=⟨b1,0,none⟩) (Kd.S_types HO_241000.out a4.out (by decide)) (fun _ hk=>hk.2) (.slice (some j7) a3.length j9)) (fun _ hk=>hk.2) (.slice u7 a5.length x9)) (fun _ hk=>hk.1),by refine zqfQ ?_;exact Kd.Q_mono (Kd.Q_far (p:=⟨b1,1,none⟩) (Kd.Q_far (p:=⟨b1,0,none⟩) (Kd.Q_types HO_241001.out a4.out (by decide)) (fun _ hk=>hk.2) (.slice (some j7) a3.length j9)) (fun _ hk=>hk.2) (.slice u7 a5.length x9)) (fun _ hk=>trivial),zq1,zq3,zq0⟩
              ·rw [if_neg x4] at H;exact absurd H (by simp)
             ·rw [if_neg x3] at H;exact absurd H (by simp)
            ·rw [if_neg x2] at H;exact absurd H (by simp)
        ·replace w9:=Bool.eq_false_iff.mpr w9;subst w9;(have H1:(some (a3,a5,e3))=some (r1,r2,r3):=by rw [if_neg (show¬(false=true) by decide)] at H;exact H);clear H;have H:=H1;clear H1;simp only [Option.some.injEq,Prod.mk.injEq] at H;obtain⟨rfl,rfl,rfl⟩:=H
         go_wp2_with (first|((with_reducible refine gate_callee (f:=45) rfl ?_);refine goesL_ (some 88) rfl rfl Try.func45 zqk rfl #[.pointer (some ⟨g,0,none⟩),.int .i64 a1] rfl zq5 ?_;(with_reducible refine(spec_l20Rd_odd.calls d4 g s0_0 e2 a1 false e3 w0 _ ?side1 ?side2 o2.out).mono ?_);(case side1=> exact zq1);(case side2=> exact zq3);rintro e a0m ⟨rfl,hi,hb,hk⟩;refine⟨_,rfl,?_⟩;replace HO_241000:=zqm (Kd.S_mono (Kd.S_keep (IsS61.apartS (show IsS61 w0 _ g s0_0 e2 from zq1) (zqfS HO_241000.out) (by decide)) hk (fun _ h=>h.2)) (fun _ h=>h.1));replace HO_241001:=zqm (Kd.Q_mono (Kd.Q_keep (IsS61.apartQ (show IsS61 w0 _ g s0_0 e2 from zq1) (zqfQ HO_241001.out) (by decide)) hk (fun _ h=>h.2)) (fun _ h=>h.1));replace a4:=zqm (KeepBut.blk hk (g':=b1) (o:= .cells #[.slice none 0 0,.slice none 0 0] 26 (0,0)) (zqe a4.out) c7.out (by simp));replace a0:=zqm (KeepBut.blk hk (g':=a8) (o:= .cells #[b8,b9] 26 (0,0)) (zqe a0.out) c2.out (by simp));replace HK:=zqm (KeepBut.trans zq0 hk (.inl rfl));replace HB:=zqm (hb);replace a2:=zqm (hi);clear hb hk hi;have b6m:=c6.out;have b7k:=b3.out;have b6n:=c2.out;have b7l:=a6.out;have b1n:a0m.cell? ⟨a8,0,none⟩=some (b8):=(blk_cell a0.out 0).trans rfl;have b1o:a0m.cell? ⟨a8,1,none⟩=some (b9):=(blk_cell a0.out 1).trans rfl;have b2t:=blk_frozen a0.out 0;have b2u:=blk_frozen a0.out 1;obtain⟨q1,q9,a6v⟩:=Kd.S_slice HO_241000.out;subst a6v;have b6o:=c7.out;have b7m:=a7.out;have b1p:a0m.cell? ⟨b1,0,none⟩=some (.slice none 0 0):=(blk_cell a4.out 0).trans rfl;have b1q:a0m.cell? ⟨b1,1,none⟩=some (.slice none 0 0):=(blk_cell a4.out 1).trans rfl;have b2v:=blk_frozen a4.out 0;have b2w:=blk_frozen a4.out 1;obtain⟨u8,y0,a6w,_⟩:=Kd.Q_slice HO_241001.out;subst a6w))
         refine bodyPost_ret (results_cell_row rfl _ _ b1 26 #[.slice q1 a3.length q9,.slice u8 a5.length y0] (0,0) _ rfl (by refine zqe ?_;refine blk_put (cs:= #[.slice q1 a3.length q9,.slice none 0 0]) ?_ 1 _ rfl;refine zqe ?_;refine blk_put (cs:= #[.slice none 0 0,.slice none 0 0]) ?_ 0 _ rfl;refine zqe ?_;exact a4.out) Try.underlying26 rfl zqk) rfl ?_;exact⟨_,_,zq17,by refine zqfS ?_;exact Kd.S_mono (Kd.S_far (p:=⟨b1,1,none⟩) (Kd.S_far (p:=⟨b1,0,none⟩) (Kd.S_types HO_241000.out a4.out (by decide)) (fun _ hk=>hk.2) (.slice q1 a3.length q9)) (fun _ hk=>hk.2) (.slice u8 a5.length y0)) (fun _ hk=>hk.1),by refine zqfQ ?_;exact Kd.Q_mono (Kd.Q_far (p:=⟨b1,1,none⟩) (Kd.Q_far (p:=⟨b1,0,none⟩) (Kd.Q_types HO_241001.out a4.out (by decide)) (fun _ hk=>hk.2) (.slice q1 a3.length q9)) (fun _ hk=>hk.2) (.slice u8 a5.length y0)) (fun _ hk=>trivial),zq1,zq3,zq0⟩
end
section
attribute [local go_sem] max2_int min2_int max_two min_two max_three min_three max_four min_four
def spec_l20Open.f (l0 : List Int) : Option (List Int × Int) := if (l0.length : Int) > 2000 then (if 2000 ≤ (l0.length : Int) then (some (l0.take 2000, 0)) else (none)) else (some (l0, 0))
set_option maxHeartbeats 8000000 in
set_option maxRecDepth 100000 in
theorem spec_l20Open.calls (A0 : Option Addr) (c0 : Nat) (l0 : List Int) (r1 : List Int) (r2 : Int) (w0 w : World) (hB : Below w0.heap.size w0 w) (hr0 : Kd.C (Kd.int .u8) w0 A0 l0.length l0) (hc0 : l0.length ≤ c0) (h : spec_l20Open.f l0 = some (r1, r2)) :
  Calls Try.prog 17 #[.slice A0 l0.length c0] w fun e w' => ∃ g_ : Nat, e = .returned (.pointer (some ⟨g_, 0, none⟩)) ∧ IsS61 w0 w' g_ r1 r2 ∧ Below w0.heap.size w0 w' ∧ Below w.heap.size w w' := by
 have hu61:=Try.underlying61;have b1:=zqm hr0;have b5:=zqm hc0;clear hr0 hc0;have HBW:=zqm (Below.refl w.heap.size w);have b2:=zqm hB.size;have HB:=zqm hB;clear hB;have H:(if(l0.length:Int)>2000 then(if 2000≤(l0.length:Int) then(some (l0.take 2000,0)) else(none)) else(some (l0,0)))=some (r1,r2):=h;clear h
 by_cases c2:(l0.length:Int)>2000
 ·rw [if_pos c2] at H;have b3:decide (2000<(l0.length:Int))=true:=decide_eq_true c2;have b4:decide (2000<l0.length)=true:=decide_eq_true (by omega);clear c2
  by_cases c3:2000≤(l0.length:Int)
  ·rw [if_pos c3] at H;have b7:=eq_true c3;have b8:decide (2000≤(l0.length:Int))=true:=decide_eq_true c3;clear c3;simp only [Option.some.injEq,Prod.mk.injEq] at H;obtain⟨rfl,rfl⟩:=H;obtain⟨i04,a5,_,hsz4,_⟩:=info_parts info5;obtain⟨hcut4,hA4,hC4⟩:=print_take_of (P:=Try.prog) (Value.int .u8) 0 22 5 .i64 Try.underlying22 a5 hsz4 A0 c0 l0 2000 (by omega) (zqo) b5.out;have b0:=zqm (Kd.C_of_reads (h1:=fun _=>rfl) (hA4 _ (Kd.reads_of_C b1.out)));have b6:=zqm hC4;clear hA4 hC4 a5 hsz4
   go_enter Try.func17,Try.ntmps17
   go_wp2_with (first|((with_reducible refine gate_dst (N:=10) rfl ?_);refine box_event ?hg (N:=10) ?hd (cs:= #[.slice A0 (l0.take 2000).length c0,.int .i64 0]) (t:=61) ?hr ?_;(case hd=>rfl);(case hg=>rfl);(case hr=> exact zq15);intro a0 hg w5 hbox hb;have a2:=zqm (below_step HBW.out hb);replace HB:=zqm (below_step zq2 hb);have a6:=zqm (hbox);have a8:=zqm ((by rw [hg];exact(below_size zq69):w.heap.size≤a0));have a3:=zqm ((Nat.le_trans b2.out (by rw [hg];exact(below_size zq69):w.heap.size≤a0):w0.heap.size≤a0));clear HBW;have HBW:=a2;clear a2 hb hbox hg))
   go_ret
   exact⟨_,rfl,(show IsS61 w0 _ a0 (l0.take 2000) 0 from ⟨_,_,zqe a6.out,a3.out,b0.out⟩),zq111,by repeat(first|(with_reducible first|exact HBW.out|apply below_alloc|apply pw_below_drewN|apply below_drew1|refine below_set ?_ a8.out)|exact HBW.out)⟩
  ·rw [if_neg c3] at H;exact absurd H (by simp)
 ·rw [if_neg c2] at H;have b3:decide (2000<(l0.length:Int))=false:=decide_eq_false c2;have b4:decide (2000<l0.length)=false:=decide_eq_false (by omega);clear c2;simp only [Option.some.injEq,Prod.mk.injEq] at H;obtain⟨rfl,rfl⟩:=H
  go_enter Try.func17,Try.ntmps17
  go_wp2_with (first|((with_reducible refine gate_dst (N:=10) rfl ?_);refine box_event ?hg (N:=10) ?hd (cs:= #[.slice A0 l0.length c0,.int .i64 0]) (t:=61) ?hr ?_;(case hd=>rfl);(case hg=>rfl);(case hr=> exact zq15);intro a1 hg w6 hbox hb;have a2:=zqm (below_step HBW.out hb);replace HB:=zqm (below_step zq2 hb);have a7:=zqm (hbox);have a9:=zqm ((by rw [hg];exact(below_size zq69):w.heap.size≤a1));have a4:=zqm ((Nat.le_trans b2.out (by rw [hg];exact(below_size zq69):w.heap.size≤a1):w0.heap.size≤a1));clear HBW;have HBW:=a2;clear a2 hb hbox hg))
  go_ret
  exact⟨_,rfl,(show IsS61 w0 _ a1 l0 0 from ⟨_,_,zqe a7.out,a4.out,b1.out⟩),zq10,by repeat(first|(with_reducible first|exact HBW.out|apply below_alloc|apply pw_below_drewN|apply below_drew1|refine below_set ?_ a9.out)|exact HBW.out)⟩
end
section
attribute [local go_sem] max2_int min2_int max_two min_two max_three min_three max_four min_four
def spec_DrawBlocksOf.f (k : Nat) (l0 : List Int) : Option ((List (List Int)) × List Int) := (spec_l20Open.f l0).bind fun bt387 => ((spec_l20Logic.f k bt387.1 bt387.2 9).bind fun bt390 => (some (bt390.1, bt390.2.1)))
set_option maxHeartbeats 8000000 in
set_option maxRecDepth 100000 in
theorem spec_DrawBlocksOf.calls (k : Nat) (A0 : Option Addr) (c0 : Nat) (l0 : List Int) (r1 : List (List Int)) (r2 : List Int) (w : World) (hr0 : Kd.C (Kd.int .u8) w A0 l0.length l0) (hc0 : l0.length ≤ c0) (h : spec_DrawBlocksOf.f k l0 = some (r1, r2)) :
  Calls Try.prog 4 #[.slice A0 l0.length c0] w fun e w' => ∃ v0_ v1_ : Value, e = .returned (.agg #[v0_, v1_]) ∧ Kd.S (Kd.slice 3 (Kd.int .i64)) 24 w' w.heap.size (fun k_ => some k_ ≠ (v1_ : Value).ownBlock) v0_ r1 ∧ Kd.Q (Kd.int .i64) 3 w' w.heap.size (fun _ => True) v1_ r2 ∧ Below w.heap.size w w' := by
 have hu26:=Try.underlying26;have c7:=zqm hr0;have c6:=zqm hc0;clear hr0 hc0;have HB:=zqm (Below.refl w.heap.size w);have H:((spec_l20Open.f l0).bind fun b7=>((spec_l20Logic.f k b7.1 b7.2 9).bind fun a4=>(some (a4.1,a4.2.1))))=some (r1,r2):=h;clear h;replace H:=Option.bind_eq_some_iff.mp H;obtain⟨⟨b2,b3⟩,b9,H⟩:=H;replace H:((spec_l20Logic.f k b2 b3 9).bind fun a4=>(some (a4.1,a4.2.1)))=some (r1,r2):=H;have A2:=zqm b9;clear b9;replace H:=Option.bind_eq_some_iff.mp H;obtain⟨⟨a5,a8,c5⟩,c1,H⟩:=H;replace H:(some (a5,a8))=some (r1,r2):=H;have A3:=zqm c1;clear c1;simp only [Option.some.injEq,Prod.mk.injEq] at H;obtain⟨rfl,rfl⟩:=H
 go_enter Try.func4,Try.ntmps4
 go_wp2_with (first|((with_reducible refine gate_dst (N:=2) rfl ?_);refine box_event ?hg (N:=2) ?hd (cs:= #[.slice none 0 0,.slice none 0 0]) (t:=26) ?hr ?_;(case hd=>rfl);(case hg=>rfl);(case hr=> exact zq15);intro a1 hg w4 hbox hb;have a9:=zqm (below_step zq2 hb);have a0:=zqm (hbox);have d3:=zqm ((by rw [hg];exact(below_size zq2):w.heap.size≤a1));have a3:=zqm ((by rw [hg];exact(below_size zq2):w.heap.size≤a1));clear HB;have HB:=a9;clear a9 hb hbox hg)|((with_reducible refine gate_callee (f:=17) rfl ?_);refine goesL_ (some 4) rfl rfl Try.func17 zqk rfl #[.slice A0 l0.length c0] rfl zq5 ?_;(with_reducible refine(spec_l20Open.calls _ _ l0 b2 b3 w _ ?side1 ?side2 ?side3 A2.out).mono ?_);(case side1=> exact zq111);(case side2=>exact c7.out);(case side3=>exact c6.out);rintro e w5 ⟨g389,rfl,hi,hb,hb2⟩;refine⟨_,rfl,?_⟩;have a9:=zqm (blk_below (g:=a1) (o:= .cells #[.slice none 0 0,.slice none 0 0] 26 (0,0)) (zqe a0.out) hb2);replace HB:=zqm (hb);have a2:=zqm (hi);have a7:=zqm (IsS61.ne_blk hi (blk_below (g:=a1) (o:= .cells #[.slice none 0 0,.slice none 0 0] 26 (0,0)) (zqe a0.out) hb2) (by decide));have a6:=zqm (Ne.symm (IsS61.ne_blk hi (blk_below (g:=a1) (o:= .cells #[.slice none 0 0,.slice none 0 0] 26 (0,0)) (zqe a0.out) hb2) (by decide)));clear a0;have a0:=a9;clear a9 hb hb2 hi)|((with_reducible refine gate_callee (f:=16) rfl ?_);refine goesL_ (some 5) rfl rfl Try.func16 zqk rfl #[.pointer (some ⟨g389,0,none⟩),.int .i64 9] rfl zq5 ?_;(with_reducible refine(spec_l20Logic.calls k g389 b2 b3 9 a5 a8 c5 w _ ?side1 ?side2 A3.out).mono ?_);(case side1=> exact zq48);(case side2=> exact zq41);rintro e w6 ⟨d6,d7,rfl,c2,c3,hi,hb,hk⟩;refine⟨_,rfl,?_⟩;replace a0:=zqm (KeepBut.blk hk (g':=a1) (o:= .cells #[.slice none 0 0,.slice none 0 0] 26 (0,0)) (zqe a0.out) a6.out (by simp));have b5:=zqm (Kd.S_lower c2 (below_size zq41));have b6:=zqm (Kd.Q_lower c3 (below_size zq41));replace HB:=zqm (hb);replace a2:=zqm (hi);clear hb hk hi c2 c3;obtain⟨b4,b8,c8⟩:=Kd.S_slice b5.out;subst c8;have d4:=a6.out;have d5:=a7.out;have c9:w6.cell? ⟨a1,0,none⟩=some (.slice none 0 0):=(blk_cell a0.out 0).trans rfl;have d0:w6.cell? ⟨a1,1,none⟩=some (.slice none 0 0):=(blk_cell a0.out 1).trans rfl;have d1:=blk_frozen a0.out 0;have d2:=blk_frozen a0.out 1;obtain⟨b0,b1,c4,_⟩:=Kd.Q_slice b6.out;subst c4))
 refine bodyPost_ret (results_cell_row rfl _ _ a1 26 #[.slice b4 a5.length b8,.slice b0 a8.length b1] (0,0) _ rfl (by refine zqe ?_;refine blk_put (cs:= #[.slice b4 a5.length b8,.slice none 0 0]) ?_ 1 _ rfl;refine zqe ?_;refine blk_put (cs:= #[.slice none 0 0,.slice none 0 0]) ?_ 0 _ rfl;refine zqe ?_;exact a0.out) Try.underlying26 rfl zqk) rfl ?_;exact⟨_,_,zq17,by refine zqfS ?_;exact Kd.S_mono (Kd.S_far (p:=⟨a1,1,none⟩) (Kd.S_far (p:=⟨a1,0,none⟩) (Kd.S_types b5.out a0.out (by decide)) (fun _ hk=>hk.2) (.slice b4 a5.length b8)) (fun _ hk=>hk.2) (.slice b0 a8.length b1)) (fun _ hk=>hk.1),by refine zqfQ ?_;exact Kd.Q_mono (Kd.Q_far (p:=⟨a1,1,none⟩) (Kd.Q_far (p:=⟨a1,0,none⟩) (Kd.Q_types b6.out a0.out (by decide)) (fun _ hk=>hk.2) (.slice b4 a5.length b8)) (fun _ hk=>hk.2) (.slice b0 a8.length b1)) (fun _ hk=>trivial),zq41⟩
end
section
attribute [local go_sem] max2_int min2_int max_two min_two max_three min_three max_four min_four
def laws_sameInts.l0 : Nat → List Int → List Int → Int → Option (Bool)
 | 0, _, _, _ => none
 | k + 1, x0, x1, x5 => if x5 < (x0.length : Int) then (if 0 ≤ x5 then (if x5 < (x1.length : Int) then (if (rd x0 x5) = (rd x1 x5) then (laws_sameInts.l0 k x0 x1 (wrap64 (x5 + 1))) else (some false)) else (none)) else (none)) else (some true)
def laws_sameInts.f (k : Nat) (l0 : List Int) (l1 : List Int) : Option (Bool) := if (l0.length : Int) = (l1.length : Int) then (laws_sameInts.l0 k l0 l1 0) else (some false)
set_option maxHeartbeats 8000000 in
set_option maxRecDepth 100000 in
theorem laws_sameInts.calls (k : Nat) (A0 : Option Addr) (c0 : Nat) (l0 : List Int) (A1 : Option Addr) (c1 : Nat) (l1 : List Int) (r : Bool) (w : World) (hr0 : Kd.C (Kd.int .i64) w A0 l0.length l0) (hc0 : l0.length ≤ c0) (hr1 : Kd.C (Kd.int .i64) w A1 l1.length l1) (hc1 : l1.length ≤ c1) (h : laws_sameInts.f k l0 l1 = some r) :
  Calls Try.prog 6 #[.slice A0 l0.length c0, .slice A1 l1.length c1] w fun e w' => e = .returned (.bool r) ∧ Drawn0 w w' := by
 have b5:=zqm hr0;have c9:=zqm hc0;clear hr0 hc0;have b6:=zqm hr1;have d0:=zqm hc1;clear hr1 hc1;have H:(if(l0.length:Int)=(l1.length:Int) then(laws_sameInts.l0 k l0 l1 0) else(some false))=some r:=h;clear h
 by_cases c3:(l0.length:Int)=(l1.length:Int)
 ·rw [if_pos c3] at H;have a9:((l0.length:Int)==(l1.length:Int))=true:=beq_iff_eq.mpr c3;have b0:((l0.length:Int) !=(l1.length:Int))=false:=bne_eq_false_iff_eq.mpr c3;(have b1:(l0.length==l1.length)=true:=by first|simpa using c3|(simp at c3 ⊢;omega));clear c3;have H':=zqm H;clear H
  go_enter Try.func6,Try.ntmps6
  go_wp2
  repeat(go_quiet (fail);try go_wp2)
  go_loopg [5] k (fun kq v5 w'=> ∃(a0:Int),v5= .int .i64 a0∧Aside0 (laws_sameInts.l0 kq l0 l1 a0=some r)∧Aside0 (kq≤k)∧Drawn0 w w')
  case atStart=>exact⟨(0),zq6,H',⟨Nat.le_refl _⟩,zq8⟩
  case round=>
   clear H';(try clear c1);(try clear p2);(try clear c3);(try clear a9);(try clear b0);(try clear b1);obtain⟨a0,rfl,HA,b4,⟨m1,rfl⟩⟩:=hrel
   cases gk with
   |zero=>exact absurd HA.out (by simp [laws_sameInts.l0])
   |succ k1=>
    have H:=HA.out;clear HA;simp only [laws_sameInts.l0] at H
    by_cases c4:a0<(l0.length:Int)
    ·rw [if_pos c4] at H;have b7:decide (a0<(l0.length:Int))=true:=decide_eq_true c4;clear c4
     by_cases c5:0≤a0
     ·rw [if_pos c5] at H;have c2:decide (0≤a0)=true:=decide_eq_true c5;clear c5
      by_cases c6:a0<(l1.length:Int)
      ·rw [if_pos c6] at H;have c8:decide (a0<(l1.length:Int))=true:=decide_eq_true c6;clear c6
       by_cases c7:(rd l0 a0)=(rd l1 a0)
       ·rw [if_pos c7] at H;have b8:((rd l0 a0)==(rd l1 a0))=true:=beq_iff_eq.mpr c7;have b9:((rd l0 a0) !=(rd l1 a0))=false:=bne_eq_false_iff_eq.mpr c7;clear c7;have H':=zqm H;clear H;have a1:0≤(a0:Int):=zqo;have a3:a0<(l0.length:Int):=zqo;obtain⟨b2,a5,a7⟩:=Kd.at_int b5.out a0 a1 a3
        cases a5
        replace a1:=eq_true a1;replace a3:=eq_true a3;have a2:0≤(a0:Int):=zqo;have a4:a0<(l1.length:Int):=zqo;obtain⟨b3,a6,a8⟩:=Kd.at_int b6.out a0 a2 a4
        cases a6
        replace a2:=eq_true a2;replace a4:=eq_true a4
        go_wp2
        repeat(go_quiet (fail);try go_wp2)
        go_roundg k1
        (case measure=>have:=b4.out;omega);case rel=>exact⟨(wrap64 (a0+1)),zq6,H',⟨by have:=b4.out;omega⟩,zq8⟩
       ·rw [if_neg c7] at H;have b8:((rd l0 a0)==(rd l1 a0))=false:=beq_eq_false_iff_ne.mpr c7;have b9:((rd l0 a0) !=(rd l1 a0))=true:=bne_iff_ne.mpr c7;obtain rfl:=Option.some.inj H;have a1:0≤(a0:Int):=zqo;have a3:a0<(l0.length:Int):=zqo;obtain⟨b2,a5,a7⟩:=Kd.at_int b5.out a0 a1 a3
        cases a5
        replace a1:=eq_true a1;replace a3:=eq_true a3;have a2:0≤(a0:Int):=zqo;have a4:a0<(l1.length:Int):=zqo;obtain⟨b3,a6,a8⟩:=Kd.at_int b6.out a0 a2 a4
        cases a6
        replace a2:=eq_true a2;replace a4:=eq_true a4
        go_wp2
        repeat(go_quiet (fail);try go_wp2)
        go_ret
        exact⟨zq6,zq8⟩
      ·rw [if_neg c6] at H;exact absurd H (by simp)
     ·rw [if_neg c5] at H;exact absurd H (by simp)
    ·rw [if_neg c4] at H;have b7:decide (a0<(l0.length:Int))=false:=decide_eq_false c4;clear c4;obtain rfl:=Option.some.inj H
     go_wp2
     repeat(go_quiet (fail);try go_wp2)
     go_ret
     exact⟨zq6,zq8⟩
 ·rw [if_neg c3] at H;have a9:((l0.length:Int)==(l1.length:Int))=false:=beq_eq_false_iff_ne.mpr c3;have b0:((l0.length:Int) !=(l1.length:Int))=true:=bne_iff_ne.mpr c3;(have b1:(l0.length==l1.length)=false:=by first|simpa using c3|(simp at c3 ⊢;omega));obtain rfl:=Option.some.inj H
  go_enter Try.func6,Try.ntmps6
  go_wp2
  repeat(go_quiet (fail);try go_wp2)
  go_ret
  exact⟨zq6,zq8⟩
end
section
attribute [local go_sem] max2_int min2_int max_two min_two max_three min_three max_four min_four
mutual
def spec_l1Meet.l0 : Nat → List (List Int) → Int → Int → Int → Int → Option (Int)
 | 0, _, _, _, _, _ => none
 | k + 1, x0, x1, x2, x7, x8 => if x8 < (x0.length : Int) then (if 0 ≤ x8 then (if 0 ≤ x1 then (if x1 < ((rd_L2 x0 x8).length : Int) then (if (rd (rd_L2 x0 x8) x1) = 1 then (if 0 ≤ x2 then (if x2 < ((rd_L2 x0 x8).length : Int) then (if (rd (rd_L2 x0 x8) x2) = 1 then (if x7 < 0 then (spec_l1Meet.l0 k x0 x1 x2 x8 (wrap64 (x8 + 1))) else (if 0 ≤ x7 then (if x7 < (x0.length : Int) then (if x8 < ((rd_L2 x0 x7).length : Int) then (if (rd (rd_L2 x0 x7) x8) = 1 then (spec_l1Meet.l0 k x0 x1 x2 x8 (wrap64 (x8 + 1))) else (spec_l1Meet.l0 k x0 x1 x2 x7 (wrap64 (x8 + 1)))) else (none)) else (none)) else (none))) else (spec_l1Meet.l0 k x0 x1 x2 x7 (wrap64 (x8 + 1)))) else (none)) else (none)) else (spec_l1Meet.l0 k x0 x1 x2 x7 (wrap64 (x8 + 1)))) else (none)) else (none)) else (none)) else (spec_l1Meet.l1 k x0 x1 x2 x7 0)
def spec_l1Meet.l1 : Nat → List (List Int) → Int → Int → Int → Int → Option (Int)
 | 0, _, _, _, _, _ => none
 | k + 1, x0, x1, x2, x7, x9 => if x9 < (x0.length : Int) then (if 0 ≤ x9 then (if 0 ≤ x1 then (if x1 < ((rd_L2 x0 x9).length : Int) then (if (rd (rd_L2 x0 x9) x1) = 1 then (if 0 ≤ x2 then (if x2 < ((rd_L2 x0 x9).length : Int) then (if (rd (rd_L2 x0 x9) x2) = 1 then (if 0 ≤ x7 then (if x7 < ((rd_L2 x0 x9).length : Int) then (if (rd (rd_L2 x0 x9) x7) = 0 then (some (-1)) else (spec_l1Meet.l1 k x0 x1 x2 x7 (wrap64 (x9 + 1)))) else (none)) else (none)) else (spec_l1Meet.l1 k x0 x1 x2 x7 (wrap64 (x9 + 1)))) else (none)) else (none)) else (spec_l1Meet.l1 k x0 x1 x2 x7 (wrap64 (x9 + 1)))) else (none)) else (none)) else (none)) else (some x7)
end
def spec_l1Meet.f (k : Nat) (l0 : List (List Int)) (a1 : Int) (a2 : Int) : Option (Int) := spec_l1Meet.l0 k l0 a1 a2 (-1) 0
set_option maxHeartbeats 8000000 in
set_option maxRecDepth 100000 in
theorem spec_l1Meet.calls (k : Nat) (A0 : Option Addr) (c0 : Nat) (l0 : List (List Int)) (a1 : Int) (a2 : Int) (r : Int) (w : World) (hr0 : Kd.C (Kd.slice 3 (Kd.int .i64)) w A0 l0.length l0) (hc0 : l0.length ≤ c0) (h : spec_l1Meet.f k l0 a1 a2 = some r) :
  Calls Try.prog 25 #[.slice A0 l0.length c0, .int .i64 a1, .int .i64 a2] w fun e w' => e = .returned (.int .i64 r) ∧ Drawn0 w w' := by
 have d1:=zqm hr0;have q5:=zqm hc0;clear hr0 hc0;have H:(spec_l1Meet.l0 k l0 a1 a2 (-1) 0)=some r:=h;clear h;have H':=zqm H;clear H
 go_enter Try.func25,Try.ntmps25
 go_wp2
 go_loopg [7,8] k (fun kq v7 v8 w'=> ∃(a4:Int) (a0:Int),v7= .int .i64 a4∧v8= .int .i64 a0∧Aside0 (spec_l1Meet.l0 kq l0 a1 a2 a4 a0=some r)∧Aside0 (kq≤k)∧Drawn0 w w')
 case atStart=>exact⟨((-1)),(0),zq6,zq6,H',⟨Nat.le_refl _⟩,zq8⟩
 case round=>
  clear H';obtain⟨a4,a0,rfl,rfl,HA,e0,⟨m1,rfl⟩⟩:=hrel
  cases gk with
  |zero=>exact absurd HA.out (by simp [spec_l1Meet.l0])
  |succ k1=>
   have H:=HA.out;clear HA;simp only [spec_l1Meet.l0] at H
   by_cases c4:a0<(l0.length:Int)
   ·rw [if_pos c4] at H;have o7:decide (a0<(l0.length:Int))=true:=decide_eq_true c4;clear c4
    by_cases c5:0≤a0
    ·rw [if_pos c5] at H;have q1:decide (0≤a0)=true:=decide_eq_true c5;clear c5
     by_cases c6:0≤a1
     ·rw [if_pos c6] at H;have q2:decide (0≤a1)=true:=decide_eq_true c6;clear c6
      by_cases c7:a1<((rd_L2 l0 a0).length:Int)
      ·rw [if_pos c7] at H;have q3:decide (a1<((rd_L2 l0 a0).length:Int))=true:=decide_eq_true c7;clear c7
       by_cases c8:(rd (rd_L2 l0 a0) a1)=1
       ·rw [if_pos c8] at H;have o8:((rd (rd_L2 l0 a0) a1)==1)=true:=beq_iff_eq.mpr c8;have o9:((rd (rd_L2 l0 a0) a1) !=1)=false:=bne_eq_false_iff_eq.mpr c8;clear c8
        by_cases c9:0≤a2
        ·rw [if_pos c9] at H;have q4:decide (0≤a2)=true:=decide_eq_true c9;clear c9
         by_cases k9:a2<((rd_L2 l0 a0).length:Int)
         ·rw [if_pos k9] at H;have p0:decide (a2<((rd_L2 l0 a0).length:Int))=true:=decide_eq_true k9;clear k9
          by_cases i2:(rd (rd_L2 l0 a0) a2)=1
          ·rw [if_pos i2] at H;have n5:((rd (rd_L2 l0 a0) a2)==1)=true:=beq_iff_eq.mpr i2;have n6:((rd (rd_L2 l0 a0) a2) !=1)=false:=bne_eq_false_iff_eq.mpr i2;clear i2
           by_cases j3:a4<0
           ·rw [if_pos j3] at H;have n7:decide (a4<0)=true:=decide_eq_true j3;clear j3;have H':=zqm H;clear H;have b1:0≤(a0:Int):=zqo;have b3:a0<(l0.length:Int):=zqo;obtain⟨d9,g9,h1,f3,d4,a6,a5⟩:=at_L2 d1.out a0 b1 b3
            cases f3
            have b5:=zqm a5;have f5:=zqm a6;clear a5 a6;replace b1:=eq_true b1;replace b3:=eq_true b3;have b2:0≤(a1:Int):=zqo;have b4:a1<((rd_L2 l0 a0).length:Int):=zqo;obtain⟨h9,f4,f6⟩:=Kd.at_int b5.out a1 b2 b4
            cases f4
            replace b2:=eq_true b2;replace b4:=eq_true b4;have b6:0≤(a0:Int):=zqo;have c1:a0<(l0.length:Int):=zqo;obtain⟨f2,i0,i7,f7,d8,a9,a7⟩:=at_L2 d1.out a0 b6 c1;obtain rfl:d9=f2:=(by injection f7);have d6:=zqm a7;have h2:=zqm a9;clear a7 a9;replace b6:=eq_true b6;replace c1:=eq_true c1;have ea_:=Option.some.inj (d4.symm.trans d8);injection ea_ with ea_ en_ ec_;subst ea_;subst ec_;clear en_;have b7:0≤(a2:Int):=zqo;have c2:a2<((rd_L2 l0 a0).length:Int):=zqo;obtain⟨j6,f8,h6⟩:=Kd.at_int d6.out a2 b7 c2
            cases f8
            replace b7:=eq_true b7;replace c2:=eq_true c2
            go_wp2
            go_roundg k1
            (case measure=>have:=e0.out;omega);case rel=>exact⟨(a0),(wrap64 (a0+1)),zq6,zq6,H',⟨by have:=e0.out;omega⟩,zq8⟩
           ·rw [if_neg j3] at H;have n7:decide (a4<0)=false:=decide_eq_false j3;clear j3
            by_cases l2:0≤a4
            ·rw [if_pos l2] at H;have p1:decide (0≤a4)=true:=decide_eq_true l2;clear l2
             by_cases l3:a4<(l0.length:Int)
             ·rw [if_pos l3] at H;have p2:decide (a4<(l0.length:Int))=true:=decide_eq_true l3;clear l3
              by_cases l4:a0<((rd_L2 l0 a4).length:Int)
              ·rw [if_pos l4] at H;have p3:decide (a0<((rd_L2 l0 a4).length:Int))=true:=decide_eq_true l4;clear l4
               by_cases i3:(rd (rd_L2 l0 a4) a0)=1
               ·rw [if_pos i3] at H;have n8:((rd (rd_L2 l0 a4) a0)==1)=true:=beq_iff_eq.mpr i3;have n9:((rd (rd_L2 l0 a4) a0) !=1)=false:=bne_eq_false_iff_eq.mpr i3;clear i3;have H':=zqm H;clear H;have b1:0≤(a0:Int):=zqo;have b3:a0<(l0.length:Int):=zqo;obtain⟨d9,g9,h1,f3,d4,a6,a5⟩:=at_L2 d1.out a0 b1 b3
                cases f3
                have b5:=zqm a5;have f5:=zqm a6;clear a5 a6;replace b1:=eq_true b1;replace b3:=eq_true b3;have b2:0≤(a1:Int):=zqo;have b4:a1<((rd_L2 l0 a0).length:Int):=zqo;obtain⟨h9,f4,f6⟩:=Kd.at_int b5.out a1 b2 b4
                cases f4
                replace b2:=eq_true b2;replace b4:=eq_true b4;have b6:0≤(a0:Int):=zqo;have c1:a0<(l0.length:Int):=zqo;obtain⟨f2,i0,i7,f7,d8,a9,a7⟩:=at_L2 d1.out a0 b6 c1;obtain rfl:d9=f2:=(by injection f7);have d6:=zqm a7;have h2:=zqm a9;clear a7 a9;replace b6:=eq_true b6;replace c1:=eq_true c1;have ea_:=Option.some.inj (d4.symm.trans d8);injection ea_ with ea_ en_ ec_;subst ea_;subst ec_;clear en_;have b7:0≤(a2:Int):=zqo;have c2:a2<((rd_L2 l0 a0).length:Int):=zqo;obtain⟨j6,f8,h6⟩:=Kd.at_int d6.out a2 b7 c2
                cases f8
                replace b7:=eq_true b7;replace c2:=eq_true c2;have g1:0≤(a4:Int):=zqo;have g5:a4<(l0.length:Int):=zqo;obtain⟨j7,m9,n1,k4,m6,e9,e7⟩:=at_L2 d1.out a4 g1 g5;obtain rfl:d9=j7:=(by injection k4);have h4:=zqm e7;have m4:=zqm e9;clear e7 e9;replace g1:=eq_true g1;replace g5:=eq_true g5;have g2:0≤(a0:Int):=zqo;have g6:a0<((rd_L2 l0 a4).length:Int):=zqo;obtain⟨n3,k5,m7⟩:=Kd.at_int h4.out a0 g2 g6
                cases k5
                replace g2:=eq_true g2;replace g6:=eq_true g6
                go_wp2
                go_roundg k1
                (case measure=>have:=e0.out;omega);case rel=>exact⟨(a0),(wrap64 (a0+1)),zq6,zq6,H',⟨by have:=e0.out;omega⟩,zq8⟩
               ·rw [if_neg i3] at H;have n8:((rd (rd_L2 l0 a4) a0)==1)=false:=beq_eq_false_iff_ne.mpr i3;have n9:((rd (rd_L2 l0 a4) a0) !=1)=true:=bne_iff_ne.mpr i3;have H':=zqm H;clear H;have b1:0≤(a0:Int):=zqo;have b3:a0<(l0.length:Int):=zqo;obtain⟨d9,g9,h1,f3,d4,a6,a5⟩:=at_L2 d1.out a0 b1 b3
                cases f3
                have b5:=zqm a5;have f5:=zqm a6;clear a5 a6;replace b1:=eq_true b1;replace b3:=eq_true b3;have b2:0≤(a1:Int):=zqo;have b4:a1<((rd_L2 l0 a0).length:Int):=zqo;obtain⟨h9,f4,f6⟩:=Kd.at_int b5.out a1 b2 b4
                cases f4
                replace b2:=eq_true b2;replace b4:=eq_true b4;have b6:0≤(a0:Int):=zqo;have c1:a0<(l0.length:Int):=zqo;obtain⟨f2,i0,i7,f7,d8,a9,a7⟩:=at_L2 d1.out a0 b6 c1;obtain rfl:d9=f2:=(by injection f7);have d6:=zqm a7;have h2:=zqm a9;clear a7 a9;replace b6:=eq_true b6;replace c1:=eq_true c1;have ea_:=Option.some.inj (d4.symm.trans d8);injection ea_ with ea_ en_ ec_;subst ea_;subst ec_;clear en_;have b7:0≤(a2:Int):=zqo;have c2:a2<((rd_L2 l0 a0).length:Int):=zqo;obtain⟨j6,f8,h6⟩:=Kd.at_int d6.out a2 b7 c2
                cases f8
                replace b7:=eq_true b7;replace c2:=eq_true c2;have g1:0≤(a4:Int):=zqo;have g5:a4<(l0.length:Int):=zqo;obtain⟨j7,m9,n1,k4,m6,e9,e7⟩:=at_L2 d1.out a4 g1 g5;obtain rfl:d9=j7:=(by injection k4);have h4:=zqm e7;have m4:=zqm e9;clear e7 e9;replace g1:=eq_true g1;replace g5:=eq_true g5;have g2:0≤(a0:Int):=zqo;have g6:a0<((rd_L2 l0 a4).length:Int):=zqo;obtain⟨n3,k5,m7⟩:=Kd.at_int h4.out a0 g2 g6
                cases k5
                replace g2:=eq_true g2;replace g6:=eq_true g6
                go_wp2
                go_roundg k1
                (case measure=>have:=e0.out;omega);case rel=>exact⟨(a4),(wrap64 (a0+1)),zq6,zq6,H',⟨by have:=e0.out;omega⟩,zq8⟩
              ·rw [if_neg l4] at H;exact absurd H (by simp)
             ·rw [if_neg l3] at H;exact absurd H (by simp)
            ·rw [if_neg l2] at H;exact absurd H (by simp)
          ·rw [if_neg i2] at H;have n5:((rd (rd_L2 l0 a0) a2)==1)=false:=beq_eq_false_iff_ne.mpr i2;have n6:((rd (rd_L2 l0 a0) a2) !=1)=true:=bne_iff_ne.mpr i2;have H':=zqm H;clear H;have b1:0≤(a0:Int):=zqo;have b3:a0<(l0.length:Int):=zqo;obtain⟨d9,g9,h1,f3,d4,a6,a5⟩:=at_L2 d1.out a0 b1 b3
           cases f3
           have b5:=zqm a5;have f5:=zqm a6;clear a5 a6;replace b1:=eq_true b1;replace b3:=eq_true b3;have b2:0≤(a1:Int):=zqo;have b4:a1<((rd_L2 l0 a0).length:Int):=zqo;obtain⟨h9,f4,f6⟩:=Kd.at_int b5.out a1 b2 b4
           cases f4
           replace b2:=eq_true b2;replace b4:=eq_true b4;have b6:0≤(a0:Int):=zqo;have c1:a0<(l0.length:Int):=zqo;obtain⟨f2,i0,i7,f7,d8,a9,a7⟩:=at_L2 d1.out a0 b6 c1;obtain rfl:d9=f2:=(by injection f7);have d6:=zqm a7;have h2:=zqm a9;clear a7 a9;replace b6:=eq_true b6;replace c1:=eq_true c1;have ea_:=Option.some.inj (d4.symm.trans d8);injection ea_ with ea_ en_ ec_;subst ea_;subst ec_;clear en_;have b7:0≤(a2:Int):=zqo;have c2:a2<((rd_L2 l0 a0).length:Int):=zqo;obtain⟨j6,f8,h6⟩:=Kd.at_int d6.out a2 b7 c2
           cases f8
           replace b7:=eq_true b7;replace c2:=eq_true c2
           go_wp2
           go_roundg k1
           (case measure=>have:=e0.out;omega);case rel=>exact⟨(a4),(wrap64 (a0+1)),zq6,zq6,H',⟨by have:=e0.out;omega⟩,zq8⟩
         ·rw [if_neg k9] at H;exact absurd H (by simp)
        ·rw [if_neg c9] at H;exact absurd H (by simp)
       ·rw [if_neg c8] at H;have o8:((rd (rd_L2 l0 a0) a1)==1)=false:=beq_eq_false_iff_ne.mpr c8;have o9:((rd (rd_L2 l0 a0) a1) !=1)=true:=bne_iff_ne.mpr c8;have H':=zqm H;clear H;have b1:0≤(a0:Int):=zqo;have b3:a0<(l0.length:Int):=zqo;obtain⟨d9,g9,h1,f3,d4,a6,a5⟩:=at_L2 d1.out a0 b1 b3
        cases f3
        have b5:=zqm a5;have f5:=zqm a6;clear a5 a6;replace b1:=eq_true b1;replace b3:=eq_true b3;have b2:0≤(a1:Int):=zqo;have b4:a1<((rd_L2 l0 a0).length:Int):=zqo;obtain⟨h9,f4,f6⟩:=Kd.at_int b5.out a1 b2 b4
        cases f4
        replace b2:=eq_true b2;replace b4:=eq_true b4
        go_wp2
        go_roundg k1
        (case measure=>have:=e0.out;omega);case rel=>exact⟨(a4),(wrap64 (a0+1)),zq6,zq6,H',⟨by have:=e0.out;omega⟩,zq8⟩
      ·rw [if_neg c7] at H;exact absurd H (by simp)
     ·rw [if_neg c6] at H;exact absurd H (by simp)
    ·rw [if_neg c5] at H;exact absurd H (by simp)
   ·rw [if_neg c4] at H;have o7:decide (a0<(l0.length:Int))=false:=decide_eq_false c4;clear c4;have H':=zqm H;clear H
    go_wp2
    go_loopg [9] k1 (fun kq v9 w'=> ∃(a3:Int),v9= .int .i64 a3∧Aside0 (spec_l1Meet.l1 kq l0 a1 a2 a4 a3=some r)∧Aside0 (kq≤k1)∧Drawn0 w w')
    case atStart=>exact⟨(0),zq6,H',⟨Nat.le_refl _⟩,zq8⟩
    case round=>
     clear H';obtain⟨a3,rfl,HA,j2,⟨m2,rfl⟩⟩:=hrel
     cases gk with
     |zero=>exact absurd HA.out (by simp [spec_l1Meet.l1])
     |succ k2=>
      have H:=HA.out;clear HA;simp only [spec_l1Meet.l1] at H
      by_cases j4:a3<(l0.length:Int)
      ·rw [if_pos j4] at H;have o0:decide (a3<(l0.length:Int))=true:=decide_eq_true j4;clear j4
       by_cases l5:0≤a3
       ·rw [if_pos l5] at H;have p4:decide (0≤a3)=true:=decide_eq_true l5;clear l5
        by_cases l6:0≤a1
        ·rw [if_pos l6] at H;have p5:decide (0≤a1)=true:=decide_eq_true l6;clear l6
         by_cases l7:a1<((rd_L2 l0 a3).length:Int)
         ·rw [if_pos l7] at H;have p6:decide (a1<((rd_L2 l0 a3).length:Int))=true:=decide_eq_true l7;clear l7
          by_cases i4:(rd (rd_L2 l0 a3) a1)=1
          ·rw [if_pos i4] at H;have o1:((rd (rd_L2 l0 a3) a1)==1)=true:=beq_iff_eq.mpr i4;have o2:((rd (rd_L2 l0 a3) a1) !=1)=false:=bne_eq_false_iff_eq.mpr i4;clear i4
           by_cases l8:0≤a2
           ·rw [if_pos l8] at H;have p7:decide (0≤a2)=true:=decide_eq_true l8;clear l8
            by_cases l9:a2<((rd_L2 l0 a3).length:Int)
            ·rw [if_pos l9] at H;have p8:decide (a2<((rd_L2 l0 a3).length:Int))=true:=decide_eq_true l9;clear l9
             by_cases i5:(rd (rd_L2 l0 a3) a2)=1
             ·rw [if_pos i5] at H;have o3:((rd (rd_L2 l0 a3) a2)==1)=true:=beq_iff_eq.mpr i5;have o4:((rd (rd_L2 l0 a3) a2) !=1)=false:=bne_eq_false_iff_eq.mpr i5;clear i5
              by_cases m0:0≤a4
              ·rw [if_pos m0] at H;have p9:decide (0≤a4)=true:=decide_eq_true m0;clear m0
               by_cases m3:a4<((rd_L2 l0 a3).length:Int)
               ·rw [if_pos m3] at H;have q0:decide (a4<((rd_L2 l0 a3).length:Int))=true:=decide_eq_true m3;clear m3
                by_cases i6:(rd (rd_L2 l0 a3) a4)=0
                ·rw [if_pos i6] at H;have o5:((rd (rd_L2 l0 a3) a4)==0)=true:=beq_iff_eq.mpr i6;have o6:((rd (rd_L2 l0 a3) a4) !=0)=false:=bne_eq_false_iff_eq.mpr i6;clear i6;obtain rfl:=Option.some.inj H;have b8:0≤(a3:Int):=zqo;have c3:a3<(l0.length:Int):=zqo;obtain⟨e5,i1,i8,f9,d5,b0,a8⟩:=at_L2 d1.out a3 b8 c3
                 cases f9
                 have d7:=zqm a8;have h3:=zqm b0;clear a8 b0;replace b8:=eq_true b8;replace c3:=eq_true c3;have b9:0≤(a1:Int):=zqo;have d0:a1<((rd_L2 l0 a3).length:Int):=zqo;obtain⟨j8,g0,h7⟩:=Kd.at_int d7.out a1 b9 d0
                 cases g0
                 replace b9:=eq_true b9;replace d0:=eq_true d0;have e1:0≤(a3:Int):=zqo;have e3:a3<(l0.length:Int):=zqo;obtain⟨h0,k0,k3,i9,f1,d3,d2⟩:=at_L2 d1.out a3 e1 e3;obtain rfl:e5=h0:=(by injection i9);have e6:=zqm d2;have j1:=zqm d3;clear d2 d3;replace e1:=eq_true e1;replace e3:=eq_true e3;have ea_:=Option.some.inj (d5.symm.trans f1);injection ea_ with ea_ en_ ec_;subst ea_;subst ec_;clear en_;have e2:0≤(a2:Int):=zqo;have e4:a2<((rd_L2 l0 a3).length:Int):=zqo;obtain⟨k8,j0,j5⟩:=Kd.at_int e6.out a2 e2 e4
                 cases j0
                 replace e2:=eq_true e2;replace e4:=eq_true e4;have g3:0≤(a3:Int):=zqo;have g7:a3<(l0.length:Int):=zqo;obtain⟨j9,n0,n2,k6,h8,f0,e8⟩:=at_L2 d1.out a3 g3 g7;obtain rfl:e5=j9:=(by injection k6);have h5:=zqm e8;have m5:=zqm f0;clear e8 f0;replace g3:=eq_true g3;replace g7:=eq_true g7;have ea_:=Option.some.inj (d5.symm.trans h8);injection ea_ with ea_ en_ ec_;subst ea_;subst ec_;clear en_;have g4:0≤(a4:Int):=zqo;have g8:a4<((rd_L2 l0 a3).length:Int):=zqo;obtain⟨n4,k7,m8⟩:=Kd.at_int h5.out a4 g4 g8
                 cases k7
                 replace g4:=eq_true g4;replace g8:=eq_true g8
                 go_wp2
                 go_ret
                 exact⟨zq6,zq8⟩
                ·rw [if_neg i6] at H;have o5:((rd (rd_L2 l0 a3) a4)==0)=false:=beq_eq_false_iff_ne.mpr i6;have o6:((rd (rd_L2 l0 a3) a4) !=0)=true:=bne_iff_ne.mpr i6;have H':=zqm H;clear H;have b8:0≤(a3:Int):=zqo;have c3:a3<(l0.length:Int):=zqo;obtain⟨e5,i1,i8,f9,d5,b0,a8⟩:=at_L2 d1.out a3 b8 c3
                 cases f9
                 have d7:=zqm a8;have h3:=zqm b0;clear a8 b0;replace b8:=eq_true b8;replace c3:=eq_true c3;have b9:0≤(a1:Int):=zqo;have d0:a1<((rd_L2 l0 a3).length:Int):=zqo;obtain⟨j8,g0,h7⟩:=Kd.at_int d7.out a1 b9 d0
                 cases g0
                 replace b9:=eq_true b9;replace d0:=eq_true d0;have e1:0≤(a3:Int):=zqo;have e3:a3<(l0.length:Int):=zqo;obtain⟨h0,k0,k3,i9,f1,d3,d2⟩:=at_L2 d1.out a3 e1 e3;obtain rfl:e5=h0:=(by injection i9);have e6:=zqm d2;have j1:=zqm d3;clear d2 d3;replace e1:=eq_true e1;replace e3:=eq_true e3;have ea_:=Option.some.inj (d5.symm.trans f1);injection ea_ with ea_ en_ ec_;subst ea_;subst ec_;clear en_;have e2:0≤(a2:Int):=zqo;have e4:a2<((rd_L2 l0 a3).length:Int):=zqo;obtain⟨k8,j0,j5⟩:=Kd.at_int e6.out a2 e2 e4
                 cases j0
                 replace e2:=eq_true e2;replace e4:=eq_true e4;have g3:0≤(a3:Int):=zqo;have g7:a3<(l0.length:Int):=zqo;obtain⟨j9,n0,n2,k6,h8,f0,e8⟩:=at_L2 d1.out a3 g3 g7;obtain rfl:e5=j9:=(by injection k6);have h5:=zqm e8;have m5:=zqm f0;clear e8 f0;replace g3:=eq_true g3;replace g7:=eq_true g7;have ea_:=Option.some.inj (d5.symm.trans h8);injection ea_ with ea_ en_ ec_;subst ea_;subst ec_;clear en_;have g4:0≤(a4:Int):=zqo;have g8:a4<((rd_L2 l0 a3).length:Int):=zqo;obtain⟨n4,k7,m8⟩:=Kd.at_int h5.out a4 g4 g8
                 cases k7
                 replace g4:=eq_true g4;replace g8:=eq_true g8
                 go_wp2
                 go_roundg k2
                 (case measure=> exact zq136);case rel=>exact⟨(wrap64 (a3+1)),zq6,H',⟨zq136⟩,zq8⟩
               ·rw [if_neg m3] at H;exact absurd H (by simp)
              ·rw [if_neg m0] at H;exact absurd H (by simp)
             ·rw [if_neg i5] at H;have o3:((rd (rd_L2 l0 a3) a2)==1)=false:=beq_eq_false_iff_ne.mpr i5;have o4:((rd (rd_L2 l0 a3) a2) !=1)=true:=bne_iff_ne.mpr i5;have H':=zqm H;clear H;have b8:0≤(a3:Int):=zqo;have c3:a3<(l0.length:Int):=zqo;obtain⟨e5,i1,i8,f9,d5,b0,a8⟩:=at_L2 d1.out a3 b8 c3
              cases f9
              have d7:=zqm a8;have h3:=zqm b0;clear a8 b0;replace b8:=eq_true b8;replace c3:=eq_true c3;have b9:0≤(a1:Int):=zqo;have d0:a1<((rd_L2 l0 a3).length:Int):=zqo;obtain⟨j8,g0,h7⟩:=Kd.at_int d7.out a1 b9 d0
              cases g0
              replace b9:=eq_true b9;replace d0:=eq_true d0;have e1:0≤(a3:Int):=zqo;have e3:a3<(l0.length:Int):=zqo;obtain⟨h0,k0,k3,i9,f1,d3,d2⟩:=at_L2 d1.out a3 e1 e3;obtain rfl:e5=h0:=(by injection i9);have e6:=zqm d2;have j1:=zqm d3;clear d2 d3;replace e1:=eq_true e1;replace e3:=eq_true e3;have ea_:=Option.some.inj (d5.symm.trans f1);injection ea_ with ea_ en_ ec_;subst ea_;subst ec_;clear en_;have e2:0≤(a2:Int):=zqo;have e4:a2<((rd_L2 l0 a3).length:Int):=zqo;obtain⟨k8,j0,j5⟩:=Kd.at_int e6.out a2 e2 e4
              cases j0
              replace e2:=eq_true e2;replace e4:=eq_true e4
              go_wp2
              go_roundg k2
              (case measure=> exact zq136);case rel=>exact⟨(wrap64 (a3+1)),zq6,H',⟨zq136⟩,zq8⟩
            ·rw [if_neg l9] at H;exact absurd H (by simp)
           ·rw [if_neg l8] at H;exact absurd H (by simp)
          ·rw [if_neg i4] at H;have o1:((rd (rd_L2 l0 a3) a1)==1)=false:=beq_eq_false_iff_ne.mpr i4;have o2:((rd (rd_L2 l0 a3) a1) !=1)=true:=bne_iff_ne.mpr i4;have H':=zqm H;clear H;have b8:0≤(a3:Int):=zqo;have c3:a3<(l0.length:Int):=zqo;obtain⟨e5,i1,i8,f9,d5,b0,a8⟩:=at_L2 d1.out a3 b8 c3
           cases f9
           have d7:=zqm a8;have h3:=zqm b0;clear a8 b0;replace b8:=eq_true b8;replace c3:=eq_true c3;have b9:0≤(a1:Int):=zqo;have d0:a1<((rd_L2 l0 a3).length:Int):=zqo;obtain⟨j8,g0,h7⟩:=Kd.at_int d7.out a1 b9 d0
           cases g0
           replace b9:=eq_true b9;replace d0:=eq_true d0
           go_wp2
           go_roundg k2
           (case measure=> exact zq136);case rel=>exact⟨(wrap64 (a3+1)),zq6,H',⟨zq136⟩,zq8⟩
         ·rw [if_neg l7] at H;exact absurd H (by simp)
        ·rw [if_neg l6] at H;exact absurd H (by simp)
       ·rw [if_neg l5] at H;exact absurd H (by simp)
      ·rw [if_neg j4] at H;have o0:decide (a3<(l0.length:Int))=false:=decide_eq_false j4;clear j4;obtain rfl:=Option.some.inj H
       go_wp2
       go_ret
       exact⟨zq6,zq8⟩
end
section
attribute [local go_sem] max2_int min2_int max_two min_two max_three min_three max_four min_four
mutual
def spec_l1Join.l0 : Nat → List (List Int) → Int → Int → Int → Int → Option (Int)
 | 0, _, _, _, _, _ => none
 | k + 1, x0, x1, x2, x7, x8 => if x8 < (x0.length : Int) then (if 0 ≤ x1 then (if x1 < (x0.length : Int) then (if 0 ≤ x8 then (if x8 < ((rd_L2 x0 x1).length : Int) then (if (rd (rd_L2 x0 x1) x8) = 1 then (if 0 ≤ x2 then (if x2 < (x0.length : Int) then (if x8 < ((rd_L2 x0 x2).length : Int) then (if (rd (rd_L2 x0 x2) x8) = 1 then (if x7 < 0 then (spec_l1Join.l0 k x0 x1 x2 x8 (wrap64 (x8 + 1))) else (if 0 ≤ x7 then (if x7 < ((rd_L2 x0 x8).length : Int) then (if (rd (rd_L2 x0 x8) x7) = 1 then (spec_l1Join.l0 k x0 x1 x2 x8 (wrap64 (x8 + 1))) else (spec_l1Join.l0 k x0 x1 x2 x7 (wrap64 (x8 + 1)))) else (none)) else (none))) else (spec_l1Join.l0 k x0 x1 x2 x7 (wrap64 (x8 + 1)))) else (none)) else (none)) else (none)) else (spec_l1Join.l0 k x0 x1 x2 x7 (wrap64 (x8 + 1)))) else (none)) else (none)) else (none)) else (none)) else (spec_l1Join.l1 k x0 x1 x2 x7 0)
def spec_l1Join.l1 : Nat → List (List Int) → Int → Int → Int → Int → Option (Int)
 | 0, _, _, _, _, _ => none
 | k + 1, x0, x1, x2, x7, x9 => if x9 < (x0.length : Int) then (if 0 ≤ x1 then (if x1 < (x0.length : Int) then (if 0 ≤ x9 then (if x9 < ((rd_L2 x0 x1).length : Int) then (if (rd (rd_L2 x0 x1) x9) = 1 then (if 0 ≤ x2 then (if x2 < (x0.length : Int) then (if x9 < ((rd_L2 x0 x2).length : Int) then (if (rd (rd_L2 x0 x2) x9) = 1 then (if 0 ≤ x7 then (if x7 < (x0.length : Int) then (if x9 < ((rd_L2 x0 x7).length : Int) then (if (rd (rd_L2 x0 x7) x9) = 0 then (some (-1)) else (spec_l1Join.l1 k x0 x1 x2 x7 (wrap64 (x9 + 1)))) else (none)) else (none)) else (none)) else (spec_l1Join.l1 k x0 x1 x2 x7 (wrap64 (x9 + 1)))) else (none)) else (none)) else (none)) else (spec_l1Join.l1 k x0 x1 x2 x7 (wrap64 (x9 + 1)))) else (none)) else (none)) else (none)) else (none)) else (some x7)
end
def spec_l1Join.f (k : Nat) (l0 : List (List Int)) (a1 : Int) (a2 : Int) : Option (Int) := spec_l1Join.l0 k l0 a1 a2 (-1) 0
set_option maxHeartbeats 8000000 in
set_option maxRecDepth 100000 in
theorem spec_l1Join.calls (k : Nat) (A0 : Option Addr) (c0 : Nat) (l0 : List (List Int)) (a1 : Int) (a2 : Int) (r : Int) (w : World) (hr0 : Kd.C (Kd.slice 3 (Kd.int .i64)) w A0 l0.length l0) (hc0 : l0.length ≤ c0) (h : spec_l1Join.f k l0 a1 a2 = some r) :
  Calls Try.prog 24 #[.slice A0 l0.length c0, .int .i64 a1, .int .i64 a2] w fun e w' => e = .returned (.int .i64 r) ∧ Drawn0 w w' := by
 have d1:=zqm hr0;have r3:=zqm hc0;clear hr0 hc0;have H:(spec_l1Join.l0 k l0 a1 a2 (-1) 0)=some r:=h;clear h;have H':=zqm H;clear H
 go_enter Try.func24,Try.ntmps24
 go_wp2
 go_loopg [7,8] k (fun kq v7 v8 w'=> ∃(a4:Int) (a0:Int),v7= .int .i64 a4∧v8= .int .i64 a0∧Aside0 (spec_l1Join.l0 kq l0 a1 a2 a4 a0=some r)∧Aside0 (kq≤k)∧Drawn0 w w')
 case atStart=>exact⟨((-1)),(0),zq6,zq6,H',⟨Nat.le_refl _⟩,zq8⟩
 case round=>
  clear H';obtain⟨a4,a0,rfl,rfl,HA,d7,⟨m1,rfl⟩⟩:=hrel
  cases gk with
  |zero=>exact absurd HA.out (by simp [spec_l1Join.l0])
  |succ k1=>
   have H:=HA.out;clear HA;simp only [spec_l1Join.l0] at H
   by_cases c4:a0<(l0.length:Int)
   ·rw [if_pos c4] at H;have p1:decide (a0<(l0.length:Int))=true:=decide_eq_true c4;clear c4
    by_cases c5:0≤a1
    ·rw [if_pos c5] at H;have q9:decide (0≤a1)=true:=decide_eq_true c5;clear c5
     by_cases c6:a1<(l0.length:Int)
     ·rw [if_pos c6] at H;have r0:decide (a1<(l0.length:Int))=true:=decide_eq_true c6;clear c6
      by_cases c7:0≤a0
      ·rw [if_pos c7] at H;have r1:decide (0≤a0)=true:=decide_eq_true c7;clear c7
       by_cases c8:a0<((rd_L2 l0 a1).length:Int)
       ·rw [if_pos c8] at H;have r2:decide (a0<((rd_L2 l0 a1).length:Int))=true:=decide_eq_true c8;clear c8
        by_cases c9:(rd (rd_L2 l0 a1) a0)=1
        ·rw [if_pos c9] at H;have p2:((rd (rd_L2 l0 a1) a0)==1)=true:=beq_iff_eq.mpr c9;have p3:((rd (rd_L2 l0 a1) a0) !=1)=false:=bne_eq_false_iff_eq.mpr c9;clear c9
         by_cases k8:0≤a2
         ·rw [if_pos k8] at H;have p4:decide (0≤a2)=true:=decide_eq_true k8;clear k8
          by_cases k9:a2<(l0.length:Int)
          ·rw [if_pos k9] at H;have p5:decide (a2<(l0.length:Int))=true:=decide_eq_true k9;clear k9
           by_cases l2:a0<((rd_L2 l0 a2).length:Int)
           ·rw [if_pos l2] at H;have p6:decide (a0<((rd_L2 l0 a2).length:Int))=true:=decide_eq_true l2;clear l2
            by_cases i0:(rd (rd_L2 l0 a2) a0)=1
            ·rw [if_pos i0] at H;have n9:((rd (rd_L2 l0 a2) a0)==1)=true:=beq_iff_eq.mpr i0;have o0:((rd (rd_L2 l0 a2) a0) !=1)=false:=bne_eq_false_iff_eq.mpr i0;clear i0
             by_cases j1:a4<0
             ·rw [if_pos j1] at H;have o1:decide (a4<0)=true:=decide_eq_true j1;clear j1;have H':=zqm H;clear H;have b1:0≤(a1:Int):=zqo;have b3:a1<(l0.length:Int):=zqo;obtain⟨d6,g6,g8,e9,f2,a6,a5⟩:=at_L2 d1.out a1 b1 b3
              cases e9
              have b5:=zqm a5;have f1:=zqm a6;clear a5 a6;replace b1:=eq_true b1;replace b3:=eq_true b3;have b2:0≤(a0:Int):=zqo;have b4:a0<((rd_L2 l0 a1).length:Int):=zqo;obtain⟨h7,f0,f3⟩:=Kd.at_int b5.out a0 b2 b4
              cases f0
              replace b2:=eq_true b2;replace b4:=eq_true b4;have b6:0≤(a2:Int):=zqo;have c1:a2<(l0.length:Int):=zqo;obtain⟨e8,h8,i5,f4,h3,a9,a7⟩:=at_L2 d1.out a2 b6 c1;obtain rfl:d6=e8:=(by injection f4);have d4:=zqm a7;have g9:=zqm a9;clear a7 a9;replace b6:=eq_true b6;replace c1:=eq_true c1;have b7:0≤(a0:Int):=zqo;have c2:a0<((rd_L2 l0 a2).length:Int):=zqo;obtain⟨j5,f5,h4⟩:=Kd.at_int d4.out a0 b7 c2
              cases f5
              replace b7:=eq_true b7;replace c2:=eq_true c2
              go_wp2
              go_roundg k1
              (case measure=>have:=d7.out;omega);case rel=>exact⟨(a0),(wrap64 (a0+1)),zq6,zq6,H',⟨by have:=d7.out;omega⟩,zq8⟩
             ·rw [if_neg j1] at H;have o1:decide (a4<0)=false:=decide_eq_false j1;clear j1
              by_cases l3:0≤a4
              ·rw [if_pos l3] at H;have p7:decide (0≤a4)=true:=decide_eq_true l3;clear l3
               by_cases l4:a4<((rd_L2 l0 a0).length:Int)
               ·rw [if_pos l4] at H;have p8:decide (a4<((rd_L2 l0 a0).length:Int))=true:=decide_eq_true l4;clear l4
                by_cases i1:(rd (rd_L2 l0 a0) a4)=1
                ·rw [if_pos i1] at H;have o2:((rd (rd_L2 l0 a0) a4)==1)=true:=beq_iff_eq.mpr i1;have o3:((rd (rd_L2 l0 a0) a4) !=1)=false:=bne_eq_false_iff_eq.mpr i1;clear i1;have H':=zqm H;clear H;have b1:0≤(a1:Int):=zqo;have b3:a1<(l0.length:Int):=zqo;obtain⟨d6,g6,g8,e9,f2,a6,a5⟩:=at_L2 d1.out a1 b1 b3
                 cases e9
                 have b5:=zqm a5;have f1:=zqm a6;clear a5 a6;replace b1:=eq_true b1;replace b3:=eq_true b3;have b2:0≤(a0:Int):=zqo;have b4:a0<((rd_L2 l0 a1).length:Int):=zqo;obtain⟨h7,f0,f3⟩:=Kd.at_int b5.out a0 b2 b4
                 cases f0
                 replace b2:=eq_true b2;replace b4:=eq_true b4;have b6:0≤(a2:Int):=zqo;have c1:a2<(l0.length:Int):=zqo;obtain⟨e8,h8,i5,f4,h3,a9,a7⟩:=at_L2 d1.out a2 b6 c1;obtain rfl:d6=e8:=(by injection f4);have d4:=zqm a7;have g9:=zqm a9;clear a7 a9;replace b6:=eq_true b6;replace c1:=eq_true c1;have b7:0≤(a0:Int):=zqo;have c2:a0<((rd_L2 l0 a2).length:Int):=zqo;obtain⟨j5,f5,h4⟩:=Kd.at_int d4.out a0 b7 c2
                 cases f5
                 replace b7:=eq_true b7;replace c2:=eq_true c2;have f8:0≤(a0:Int):=zqo;have g2:a0<(l0.length:Int):=zqo;obtain⟨j6,n3,n5,k3,m9,e6,e4⟩:=at_L2 d1.out a0 f8 g2;obtain rfl:d6=j6:=(by injection k3);have h1:=zqm e4;have m7:=zqm e6;clear e4 e6;replace f8:=eq_true f8;replace g2:=eq_true g2;have f9:0≤(a4:Int):=zqo;have g3:a4<((rd_L2 l0 a0).length:Int):=zqo;obtain⟨n7,k4,n0⟩:=Kd.at_int h1.out a4 f9 g3
                 cases k4
                 replace f9:=eq_true f9;replace g3:=eq_true g3
                 go_wp2
                 go_roundg k1
                 (case measure=>have:=d7.out;omega);case rel=>exact⟨(a0),(wrap64 (a0+1)),zq6,zq6,H',⟨by have:=d7.out;omega⟩,zq8⟩
                ·rw [if_neg i1] at H;have o2:((rd (rd_L2 l0 a0) a4)==1)=false:=beq_eq_false_iff_ne.mpr i1;have o3:((rd (rd_L2 l0 a0) a4) !=1)=true:=bne_iff_ne.mpr i1;have H':=zqm H;clear H;have b1:0≤(a1:Int):=zqo;have b3:a1<(l0.length:Int):=zqo;obtain⟨d6,g6,g8,e9,f2,a6,a5⟩:=at_L2 d1.out a1 b1 b3
                 cases e9
                 have b5:=zqm a5;have f1:=zqm a6;clear a5 a6;replace b1:=eq_true b1;replace b3:=eq_true b3;have b2:0≤(a0:Int):=zqo;have b4:a0<((rd_L2 l0 a1).length:Int):=zqo;obtain⟨h7,f0,f3⟩:=Kd.at_int b5.out a0 b2 b4
                 cases f0
                 replace b2:=eq_true b2;replace b4:=eq_true b4;have b6:0≤(a2:Int):=zqo;have c1:a2<(l0.length:Int):=zqo;obtain⟨e8,h8,i5,f4,h3,a9,a7⟩:=at_L2 d1.out a2 b6 c1;obtain rfl:d6=e8:=(by injection f4);have d4:=zqm a7;have g9:=zqm a9;clear a7 a9;replace b6:=eq_true b6;replace c1:=eq_true c1;have b7:0≤(a0:Int):=zqo;have c2:a0<((rd_L2 l0 a2).length:Int):=zqo;obtain⟨j5,f5,h4⟩:=Kd.at_int d4.out a0 b7 c2
                 cases f5
                 replace b7:=eq_true b7;replace c2:=eq_true c2;have f8:0≤(a0:Int):=zqo;have g2:a0<(l0.length:Int):=zqo;obtain⟨j6,n3,n5,k3,m9,e6,e4⟩:=at_L2 d1.out a0 f8 g2;obtain rfl:d6=j6:=(by injection k3);have h1:=zqm e4;have m7:=zqm e6;clear e4 e6;replace f8:=eq_true f8;replace g2:=eq_true g2;have f9:0≤(a4:Int):=zqo;have g3:a4<((rd_L2 l0 a0).length:Int):=zqo;obtain⟨n7,k4,n0⟩:=Kd.at_int h1.out a4 f9 g3
                 cases k4
                 replace f9:=eq_true f9;replace g3:=eq_true g3
                 go_wp2
                 go_roundg k1
                 (case measure=>have:=d7.out;omega);case rel=>exact⟨(a4),(wrap64 (a0+1)),zq6,zq6,H',⟨by have:=d7.out;omega⟩,zq8⟩
               ·rw [if_neg l4] at H;exact absurd H (by simp)
              ·rw [if_neg l3] at H;exact absurd H (by simp)
            ·rw [if_neg i0] at H;have n9:((rd (rd_L2 l0 a2) a0)==1)=false:=beq_eq_false_iff_ne.mpr i0;have o0:((rd (rd_L2 l0 a2) a0) !=1)=true:=bne_iff_ne.mpr i0;have H':=zqm H;clear H;have b1:0≤(a1:Int):=zqo;have b3:a1<(l0.length:Int):=zqo;obtain⟨d6,g6,g8,e9,f2,a6,a5⟩:=at_L2 d1.out a1 b1 b3
             cases e9
             have b5:=zqm a5;have f1:=zqm a6;clear a5 a6;replace b1:=eq_true b1;replace b3:=eq_true b3;have b2:0≤(a0:Int):=zqo;have b4:a0<((rd_L2 l0 a1).length:Int):=zqo;obtain⟨h7,f0,f3⟩:=Kd.at_int b5.out a0 b2 b4
             cases f0
             replace b2:=eq_true b2;replace b4:=eq_true b4;have b6:0≤(a2:Int):=zqo;have c1:a2<(l0.length:Int):=zqo;obtain⟨e8,h8,i5,f4,h3,a9,a7⟩:=at_L2 d1.out a2 b6 c1;obtain rfl:d6=e8:=(by injection f4);have d4:=zqm a7;have g9:=zqm a9;clear a7 a9;replace b6:=eq_true b6;replace c1:=eq_true c1;have b7:0≤(a0:Int):=zqo;have c2:a0<((rd_L2 l0 a2).length:Int):=zqo;obtain⟨j5,f5,h4⟩:=Kd.at_int d4.out a0 b7 c2
             cases f5
             replace b7:=eq_true b7;replace c2:=eq_true c2
             go_wp2
             go_roundg k1
             (case measure=>have:=d7.out;omega);case rel=>exact⟨(a4),(wrap64 (a0+1)),zq6,zq6,H',⟨by have:=d7.out;omega⟩,zq8⟩
           ·rw [if_neg l2] at H;exact absurd H (by simp)
          ·rw [if_neg k9] at H;exact absurd H (by simp)
         ·rw [if_neg k8] at H;exact absurd H (by simp)
        ·rw [if_neg c9] at H;have p2:((rd (rd_L2 l0 a1) a0)==1)=false:=beq_eq_false_iff_ne.mpr c9;have p3:((rd (rd_L2 l0 a1) a0) !=1)=true:=bne_iff_ne.mpr c9;have H':=zqm H;clear H;have b1:0≤(a1:Int):=zqo;have b3:a1<(l0.length:Int):=zqo;obtain⟨d6,g6,g8,e9,f2,a6,a5⟩:=at_L2 d1.out a1 b1 b3
         cases e9
         have b5:=zqm a5;have f1:=zqm a6;clear a5 a6;replace b1:=eq_true b1;replace b3:=eq_true b3;have b2:0≤(a0:Int):=zqo;have b4:a0<((rd_L2 l0 a1).length:Int):=zqo;obtain⟨h7,f0,f3⟩:=Kd.at_int b5.out a0 b2 b4
         cases f0
         replace b2:=eq_true b2;replace b4:=eq_true b4
         go_wp2
         go_roundg k1
         (case measure=>have:=d7.out;omega);case rel=>exact⟨(a4),(wrap64 (a0+1)),zq6,zq6,H',⟨by have:=d7.out;omega⟩,zq8⟩
       ·rw [if_neg c8] at H;exact absurd H (by simp)
      ·rw [if_neg c7] at H;exact absurd H (by simp)
     ·rw [if_neg c6] at H;exact absurd H (by simp)
    ·rw [if_neg c5] at H;exact absurd H (by simp)
   ·rw [if_neg c4] at H;have p1:decide (a0<(l0.length:Int))=false:=decide_eq_false c4;clear c4;have H':=zqm H;clear H
    go_wp2
    go_loopg [9] k1 (fun kq v9 w'=> ∃(a3:Int),v9= .int .i64 a3∧Aside0 (spec_l1Join.l1 kq l0 a1 a2 a4 a3=some r)∧Aside0 (kq≤k1)∧Drawn0 w w')
    case atStart=>exact⟨(0),zq6,H',⟨Nat.le_refl _⟩,zq8⟩
    case round=>
     clear H';obtain⟨a3,rfl,HA,j0,⟨m2,rfl⟩⟩:=hrel
     cases gk with
     |zero=>exact absurd HA.out (by simp [spec_l1Join.l1])
     |succ k2=>
      have H:=HA.out;clear HA;simp only [spec_l1Join.l1] at H
      by_cases j2:a3<(l0.length:Int)
      ·rw [if_pos j2] at H;have o4:decide (a3<(l0.length:Int))=true:=decide_eq_true j2;clear j2
       by_cases l5:0≤a1
       ·rw [if_pos l5] at H;have p9:decide (0≤a1)=true:=decide_eq_true l5;clear l5
        by_cases l6:a1<(l0.length:Int)
        ·rw [if_pos l6] at H;have q0:decide (a1<(l0.length:Int))=true:=decide_eq_true l6;clear l6
         by_cases l7:0≤a3
         ·rw [if_pos l7] at H;have q1:decide (0≤a3)=true:=decide_eq_true l7;clear l7
          by_cases l8:a3<((rd_L2 l0 a1).length:Int)
          ·rw [if_pos l8] at H;have q2:decide (a3<((rd_L2 l0 a1).length:Int))=true:=decide_eq_true l8;clear l8
           by_cases i2:(rd (rd_L2 l0 a1) a3)=1
           ·rw [if_pos i2] at H;have o5:((rd (rd_L2 l0 a1) a3)==1)=true:=beq_iff_eq.mpr i2;have o6:((rd (rd_L2 l0 a1) a3) !=1)=false:=bne_eq_false_iff_eq.mpr i2;clear i2
            by_cases l9:0≤a2
            ·rw [if_pos l9] at H;have q3:decide (0≤a2)=true:=decide_eq_true l9;clear l9
             by_cases m0:a2<(l0.length:Int)
             ·rw [if_pos m0] at H;have q4:decide (a2<(l0.length:Int))=true:=decide_eq_true m0;clear m0
              by_cases m3:a3<((rd_L2 l0 a2).length:Int)
              ·rw [if_pos m3] at H;have q5:decide (a3<((rd_L2 l0 a2).length:Int))=true:=decide_eq_true m3;clear m3
               by_cases i3:(rd (rd_L2 l0 a2) a3)=1
               ·rw [if_pos i3] at H;have o7:((rd (rd_L2 l0 a2) a3)==1)=true:=beq_iff_eq.mpr i3;have o8:((rd (rd_L2 l0 a2) a3) !=1)=false:=bne_eq_false_iff_eq.mpr i3;clear i3
                by_cases m4:0≤a4
                ·rw [if_pos m4] at H;have q6:decide (0≤a4)=true:=decide_eq_true m4;clear m4
                 by_cases m5:a4<(l0.length:Int)
                 ·rw [if_pos m5] at H;have q7:decide (a4<(l0.length:Int))=true:=decide_eq_true m5;clear m5
                  by_cases m6:a3<((rd_L2 l0 a4).length:Int)
                  ·rw [if_pos m6] at H;have q8:decide (a3<((rd_L2 l0 a4).length:Int))=true:=decide_eq_true m6;clear m6
                   by_cases i4:(rd (rd_L2 l0 a4) a3)=0
                   ·rw [if_pos i4] at H;have o9:((rd (rd_L2 l0 a4) a3)==0)=true:=beq_iff_eq.mpr i4;have p0:((rd (rd_L2 l0 a4) a3) !=0)=false:=bne_eq_false_iff_eq.mpr i4;clear i4;obtain rfl:=Option.some.inj H;have b8:0≤(a1:Int):=zqo;have c3:a1<(l0.length:Int):=zqo;obtain⟨e2,h9,i6,f6,h5,b0,a8⟩:=at_L2 d1.out a1 b8 c3
                    cases f6
                    have d5:=zqm a8;have h0:=zqm b0;clear a8 b0;replace b8:=eq_true b8;replace c3:=eq_true c3;have b9:0≤(a3:Int):=zqo;have d0:a3<((rd_L2 l0 a1).length:Int):=zqo;obtain⟨j7,f7,h6⟩:=Kd.at_int d5.out a3 b9 d0
                    cases f7
                    replace b9:=eq_true b9;replace d0:=eq_true d0;have d8:0≤(a2:Int):=zqo;have e0:a2<(l0.length:Int):=zqo;obtain⟨g7,j9,k0,i7,j3,d3,d2⟩:=at_L2 d1.out a2 d8 e0;obtain rfl:e2=g7:=(by injection i7);have e3:=zqm d2;have i9:=zqm d3;clear d2 d3;replace d8:=eq_true d8;replace e0:=eq_true e0;have d9:0≤(a3:Int):=zqo;have e1:a3<((rd_L2 l0 a2).length:Int):=zqo;obtain⟨k7,i8,j4⟩:=Kd.at_int e3.out a3 d9 e1
                    cases i8
                    replace d9:=eq_true d9;replace e1:=eq_true e1;have g0:0≤(a4:Int):=zqo;have g4:a4<(l0.length:Int):=zqo;obtain⟨j8,n4,n6,k5,n1,e7,e5⟩:=at_L2 d1.out a4 g0 g4;obtain rfl:e2=j8:=(by injection k5);have h2:=zqm e5;have m8:=zqm e7;clear e5 e7;replace g0:=eq_true g0;replace g4:=eq_true g4;have g1:0≤(a3:Int):=zqo;have g5:a3<((rd_L2 l0 a4).length:Int):=zqo;obtain⟨n8,k6,n2⟩:=Kd.at_int h2.out a3 g1 g5
                    cases k6
                    replace g1:=eq_true g1;replace g5:=eq_true g5
                    go_wp2
                    go_ret
                    exact⟨zq6,zq8⟩
                   ·rw [if_neg i4] at H;have o9:((rd (rd_L2 l0 a4) a3)==0)=false:=beq_eq_false_iff_ne.mpr i4;have p0:((rd (rd_L2 l0 a4) a3) !=0)=true:=bne_iff_ne.mpr i4;have H':=zqm H;clear H;have b8:0≤(a1:Int):=zqo;have c3:a1<(l0.length:Int):=zqo;obtain⟨e2,h9,i6,f6,h5,b0,a8⟩:=at_L2 d1.out a1 b8 c3
                    cases f6
                    have d5:=zqm a8;have h0:=zqm b0;clear a8 b0;replace b8:=eq_true b8;replace c3:=eq_true c3;have b9:0≤(a3:Int):=zqo;have d0:a3<((rd_L2 l0 a1).length:Int):=zqo;obtain⟨j7,f7,h6⟩:=Kd.at_int d5.out a3 b9 d0
                    cases f7
                    replace b9:=eq_true b9;replace d0:=eq_true d0;have d8:0≤(a2:Int):=zqo;have e0:a2<(l0.length:Int):=zqo;obtain⟨g7,j9,k0,i7,j3,d3,d2⟩:=at_L2 d1.out a2 d8 e0;obtain rfl:e2=g7:=(by injection i7);have e3:=zqm d2;have i9:=zqm d3;clear d2 d3;replace d8:=eq_true d8;replace e0:=eq_true e0;have d9:0≤(a3:Int):=zqo;have e1:a3<((rd_L2 l0 a2).length:Int):=zqo;obtain⟨k7,i8,j4⟩:=Kd.at_int e3.out a3 d9 e1
                    cases i8
                    replace d9:=eq_true d9;replace e1:=eq_true e1;have g0:0≤(a4:Int):=zqo;have g4:a4<(l0.length:Int):=zqo;obtain⟨j8,n4,n6,k5,n1,e7,e5⟩:=at_L2 d1.out a4 g0 g4;obtain rfl:e2=j8:=(by injection k5);have h2:=zqm e5;have m8:=zqm e7;clear e5 e7;replace g0:=eq_true g0;replace g4:=eq_true g4;have g1:0≤(a3:Int):=zqo;have g5:a3<((rd_L2 l0 a4).length:Int):=zqo;obtain⟨n8,k6,n2⟩:=Kd.at_int h2.out a3 g1 g5
                    cases k6
                    replace g1:=eq_true g1;replace g5:=eq_true g5
                    go_wp2
                    go_roundg k2
                    (case measure=> exact zq135);case rel=>exact⟨(wrap64 (a3+1)),zq6,H',⟨zq135⟩,zq8⟩
                  ·rw [if_neg m6] at H;exact absurd H (by simp)
                 ·rw [if_neg m5] at H;exact absurd H (by simp)
                ·rw [if_neg m4] at H;exact absurd H (by simp)
               ·rw [if_neg i3] at H;have o7:((rd (rd_L2 l0 a2) a3)==1)=false:=beq_eq_false_iff_ne.mpr i3;have o8:((rd (rd_L2 l0 a2) a3) !=1)=true:=bne_iff_ne.mpr i3;have H':=zqm H;clear H;have b8:0≤(a1:Int):=zqo;have c3:a1<(l0.length:Int):=zqo;obtain⟨e2,h9,i6,f6,h5,b0,a8⟩:=at_L2 d1.out a1 b8 c3
                cases f6
                have d5:=zqm a8;have h0:=zqm b0;clear a8 b0;replace b8:=eq_true b8;replace c3:=eq_true c3;have b9:0≤(a3:Int):=zqo;have d0:a3<((rd_L2 l0 a1).length:Int):=zqo;obtain⟨j7,f7,h6⟩:=Kd.at_int d5.out a3 b9 d0
                cases f7
                replace b9:=eq_true b9;replace d0:=eq_true d0;have d8:0≤(a2:Int):=zqo;have e0:a2<(l0.length:Int):=zqo;obtain⟨g7,j9,k0,i7,j3,d3,d2⟩:=at_L2 d1.out a2 d8 e0;obtain rfl:e2=g7:=(by injection i7);have e3:=zqm d2;have i9:=zqm d3;clear d2 d3;replace d8:=eq_true d8;replace e0:=eq_true e0;have d9:0≤(a3:Int):=zqo;have e1:a3<((rd_L2 l0 a2).length:Int):=zqo;obtain⟨k7,i8,j4⟩:=Kd.at_int e3.out a3 d9 e1
                cases i8
                replace d9:=eq_true d9;replace e1:=eq_true e1
                go_wp2
                go_roundg k2
                (case measure=> exact zq135);case rel=>exact⟨(wrap64 (a3+1)),zq6,H',⟨zq135⟩,zq8⟩
              ·rw [if_neg m3] at H;exact absurd H (by simp)
             ·rw [if_neg m0] at H;exact absurd H (by simp)
            ·rw [if_neg l9] at H;exact absurd H (by simp)
           ·rw [if_neg i2] at H;have o5:((rd (rd_L2 l0 a1) a3)==1)=false:=beq_eq_false_iff_ne.mpr i2;have o6:((rd (rd_L2 l0 a1) a3) !=1)=true:=bne_iff_ne.mpr i2;have H':=zqm H;clear H;have b8:0≤(a1:Int):=zqo;have c3:a1<(l0.length:Int):=zqo;obtain⟨e2,h9,i6,f6,h5,b0,a8⟩:=at_L2 d1.out a1 b8 c3
            cases f6
            have d5:=zqm a8;have h0:=zqm b0;clear a8 b0;replace b8:=eq_true b8;replace c3:=eq_true c3;have b9:0≤(a3:Int):=zqo;have d0:a3<((rd_L2 l0 a1).length:Int):=zqo;obtain⟨j7,f7,h6⟩:=Kd.at_int d5.out a3 b9 d0
            cases f7
            replace b9:=eq_true b9;replace d0:=eq_true d0
            go_wp2
            go_roundg k2
            (case measure=> exact zq135);case rel=>exact⟨(wrap64 (a3+1)),zq6,H',⟨zq135⟩,zq8⟩
          ·rw [if_neg l8] at H;exact absurd H (by simp)
         ·rw [if_neg l7] at H;exact absurd H (by simp)
        ·rw [if_neg l6] at H;exact absurd H (by simp)
       ·rw [if_neg l5] at H;exact absurd H (by simp)
      ·rw [if_neg j2] at H;have o4:decide (a3<(l0.length:Int))=false:=decide_eq_false j2;clear j2;obtain rfl:=Option.some.inj H
       go_wp2
       go_ret
       exact⟨zq6,zq8⟩
end
section
attribute [local go_sem] max2_int min2_int max_two min_two max_three min_three max_four min_four
mutual
def spec_OrderOk.l0 : Nat → List (List Int) → Int → Int → Option (Bool)
 | 0, _, _, _ => none
 | k + 1, x0, x3, x4 => if x4 < x3 then (if 0 ≤ x4 then (if x4 < (x0.length : Int) then (if ((rd_L2 x0 x4).length : Int) = x3 then (spec_OrderOk.l1 k x0 x3 x4 0) else (some false)) else (none)) else (none)) else (spec_OrderOk.l2 k x0 x3 0)
def spec_OrderOk.l1 : Nat → List (List Int) → Int → Int → Int → Option (Bool)
 | 0, _, _, _, _ => none
 | k + 1, x0, x3, x4, x5 => if x5 < x3 then (if 0 ≤ x4 then (if x4 < (x0.length : Int) then (if 0 ≤ x5 then (if x5 < ((rd_L2 x0 x4).length : Int) then ((spec_l1In.f (rd (rd_L2 x0 x4) x5) 0 1).bind fun t475 => (if t475 = true then (spec_OrderOk.l1 k x0 x3 x4 (wrap64 (x5 + 1))) else (some false))) else (none)) else (none)) else (none)) else (none)) else (spec_OrderOk.l0 k x0 x3 (wrap64 (x4 + 1)))
def spec_OrderOk.l2 : Nat → List (List Int) → Int → Int → Option (Bool)
 | 0, _, _, _ => none
 | k + 1, x0, x3, x6 => if x6 < x3 then (spec_OrderOk.l3 k x0 x3 x6 0) else (some true)
def spec_OrderOk.l3 : Nat → List (List Int) → Int → Int → Int → Option (Bool)
 | 0, _, _, _, _ => none
 | k + 1, x0, x3, x6, x7 => if x7 < x3 then (if x6 = x7 then (if 0 ≤ x6 then (if x6 < (x0.length : Int) then (if 0 ≤ x7 then (if x7 < ((rd_L2 x0 x6).length : Int) then (if (rd (rd_L2 x0 x6) x7) = 0 then (spec_OrderOk.j4 k x0 x3 x6 x7 true) else (spec_OrderOk.j4 k x0 x3 x6 x7 false)) else (none)) else (none)) else (none)) else (none)) else (if 0 ≤ x6 then (if x6 < (x0.length : Int) then (if 0 ≤ x7 then (if x7 < ((rd_L2 x0 x6).length : Int) then (if (rd (rd_L2 x0 x6) x7) = 1 then (if x7 < (x0.length : Int) then (if x6 < ((rd_L2 x0 x7).length : Int) then (spec_OrderOk.j4 k x0 x3 x6 x7 ((rd (rd_L2 x0 x7) x6) == 1)) else (none)) else (none)) else (spec_OrderOk.j4 k x0 x3 x6 x7 false)) else (none)) else (none)) else (none)) else (none))) else (spec_OrderOk.l2 k x0 x3 (wrap64 (x6 + 1)))
def spec_OrderOk.j4 : Nat → List (List Int) → Int → Int → Int → Bool → Option (Bool)
 | 0, _, _, _, _, _ => none
 | k + 1, x0, x3, x6, x7, x87 => if x87 = true then (some false) else (spec_OrderOk.l4 k x0 x3 x6 x7 0)
def spec_OrderOk.l4 : Nat → List (List Int) → Int → Int → Int → Int → Option (Bool)
 | 0, _, _, _, _, _ => none
 | k + 1, x0, x3, x6, x7, x8 => if x8 < x3 then (if 0 ≤ x6 then (if x6 < (x0.length : Int) then (if 0 ≤ x7 then (if x7 < ((rd_L2 x0 x6).length : Int) then (if (rd (rd_L2 x0 x6) x7) = 1 then (if x7 < (x0.length : Int) then (if 0 ≤ x8 then (if x8 < ((rd_L2 x0 x7).length : Int) then (if (rd (rd_L2 x0 x7) x8) = 1 then (if x8 < ((rd_L2 x0 x6).length : Int) then (if (rd (rd_L2 x0 x6) x8) = 0 then (some false) else (spec_OrderOk.l4 k x0 x3 x6 x7 (wrap64 (x8 + 1)))) else (none)) else (spec_OrderOk.l4 k x0 x3 x6 x7 (wrap64 (x8 + 1)))) else (none)) else (none)) else (none)) else (spec_OrderOk.l4 k x0 x3 x6 x7 (wrap64 (x8 + 1)))) else (none)) else (none)) else (none)) else (none)) else (spec_OrderOk.l3 k x0 x3 x6 (wrap64 (x7 + 1)))
end
def spec_OrderOk.f (k : Nat) (l0 : List (List Int)) : Option (Bool) := (spec_l1In.f (l0.length : Int) 1 12).bind fun t471 => (if t471 = true then (spec_OrderOk.l0 k l0 (l0.length : Int) 0) else (some false))
set_option maxHeartbeats 8000000 in
set_option maxRecDepth 100000 in
theorem spec_OrderOk.calls (k : Nat) (A0 : Option Addr) (c0 : Nat) (l0 : List (List Int)) (r : Bool) (w : World) (hr0 : Kd.C (Kd.slice 3 (Kd.int .i64)) w A0 l0.length l0) (hc0 : l0.length ≤ c0) (h : spec_OrderOk.f k l0 = some r) :
  Calls Try.prog 59 #[.slice A0 l0.length c0] w fun e w' => e = .returned (.bool r) ∧ Drawn0 w w' := by
 have b5:=zqm hr0;have z3:=zqm hc0;clear hr0 hc0;have H:((spec_l1In.f (l0.length:Int) 1 12).bind fun r5=>(if r5=true then(spec_OrderOk.l0 k l0 (l0.length:Int) 0) else(some false)))=some r:=h;clear h;replace H:=Option.bind_eq_some_iff.mp H;obtain⟨r5,x6,H⟩:=H;(try dsimp only at H);have A2:=zqm x6;clear x6
 by_cases c3:r5=true
 ·subst c3;rw [if_pos rfl] at H;have H':=zqm H;clear H
  go_enter Try.func59,Try.ntmps59
  go_wp2_with (first|((with_reducible refine gate_callee (f:=54) rfl ?_);refine goesL_ (some 12) rfl rfl Try.func54 zqk rfl #[.int .i64 (l0.length:Int),.int .i64 1,.int .i64 12] rfl zq5 ?_;(with_reducible refine(spec_l1In.calls (l0.length:Int) 1 12 true _ A2.out).mono ?_);rintro e w' ⟨rfl,⟨nd,rfl⟩⟩;refine⟨_,rfl,?_⟩))
  go_loopg [4] k (fun kq v4 w'=> ∃(a2:Int),v4= .int .i64 a2∧Aside0 (spec_OrderOk.l0 kq l0 (l0.length:Int) a2=some r)∧Aside0 (kq≤k)∧Drawn0 w w')
  case atStart=>exact⟨(0),zq6,H',⟨Nat.le_refl _⟩,zq8⟩
  case round=>
   clear H';(try clear p2);(try clear c3);obtain⟨a2,rfl,HA,b4,⟨m1,rfl⟩⟩:=hrel
   cases gk with
   |zero=>exact absurd HA.out (by simp [spec_OrderOk.l0])
   |succ k1=>
    have H:=HA.out;clear HA;simp only [spec_OrderOk.l0] at H
    by_cases c4:a2<(l0.length:Int)
    ·rw [if_pos c4] at H;have i1:decide (a2<(l0.length:Int))=true:=decide_eq_true c4;clear c4
     by_cases c5:0≤a2
     ·rw [if_pos c5] at H;have l6:decide (0≤a2)=true:=decide_eq_true c5;clear c5
      by_cases c6:a2<(l0.length:Int)
      ·rw [if_pos c6] at H;have l7:decide (a2<(l0.length:Int))=true:=decide_eq_true c6;clear c6
       by_cases c7:((rd_L2 l0 a2).length:Int)=(l0.length:Int)
       ·rw [if_pos c7] at H;have i2:(((rd_L2 l0 a2).length:Int)==(l0.length:Int))=true:=beq_iff_eq.mpr c7;have i3:(((rd_L2 l0 a2).length:Int) !=(l0.length:Int))=false:=bne_eq_false_iff_eq.mpr c7;(have i4:((rd_L2 l0 a2).length==l0.length)=true:=by first|simpa using c7|(simp at c7 ⊢;omega));clear c7;have H':=zqm H;clear H;have b7:0≤(a2:Int):=zqo;have b8:a2<(l0.length:Int):=zqo;obtain⟨o7,u6,v1,q6,b9,e6,e1⟩:=at_L2 b5.out a2 b7 b8
        cases q6
        have u2:=zqm e1;have t7:=zqm e6;clear e1 e6;replace b7:=eq_true b7;replace b8:=eq_true b8
        go_wp2
        go_loopg [5] k1 (fun kq v5 w'=> ∃(a4:Int),v5= .int .i64 a4∧Aside0 (spec_OrderOk.l1 kq l0 (l0.length:Int) a2 a4=some r)∧Aside0 (kq≤k1)∧Drawn0 w w')
        case atStart=>exact⟨(0),zq6,H',⟨Nat.le_refl _⟩,zq8⟩
        case round=>
         clear H';(try clear p2);(try clear c3);(try clear c4);(try clear i1);(try clear p4);(try clear q4);(try clear t6);(try clear c5);(try clear l6);(try clear c6);(try clear l7);(try clear c7);(try clear i2);(try clear i3);(try clear i4);(try clear b9);(try clear p2);(try clear b7);(try clear b8);obtain⟨a4,rfl,HA,b3,⟨m2,rfl⟩⟩:=hrel
         cases gk with
         |zero=>exact absurd HA.out (by simp [spec_OrderOk.l1])
         |succ k2=>
          have H:=HA.out;clear HA;simp only [spec_OrderOk.l1] at H
          by_cases c8:a4<(l0.length:Int)
          ·rw [if_pos c8] at H;have l8:decide (a4<(l0.length:Int))=true:=decide_eq_true c8;clear c8
           by_cases c9:0≤a2
           ·rw [if_pos c9] at H;have q0:decide (0≤a2)=true:=decide_eq_true c9;clear c9
            by_cases j2:a2<(l0.length:Int)
            ·rw [if_pos j2] at H;have j8:decide (a2<(l0.length:Int))=true:=decide_eq_true j2;clear j2
             by_cases j3:0≤a4
             ·rw [if_pos j3] at H;have j9:decide (0≤a4)=true:=decide_eq_true j3;clear j3
              by_cases j5:a4<((rd_L2 l0 a2).length:Int)
              ·rw [if_pos j5] at H;have k0:decide (a4<((rd_L2 l0 a2).length:Int))=true:=decide_eq_true j5;clear j5;replace H:=Option.bind_eq_some_iff.mp H;obtain⟨x9,u5,H⟩:=H;(try dsimp only at H);have x5:=zqm u5;clear u5
               by_cases j6:x9=true
               ·subst j6;rw [if_pos rfl] at H;have H':=zqm H;clear H;have d0:0≤(a2:Int):=zqo;have d4:a2<(l0.length:Int):=zqo;obtain⟨o8,u7,v2,q7,f1,e7,e2⟩:=at_L2 b5.out a2 d0 d4;obtain rfl:o7=o8:=(by injection q7);have h7:=zqm e2;have t8:=zqm e7;clear e2 e7;replace d0:=eq_true d0;replace d4:=eq_true d4;have d1:0≤(a4:Int):=zqo;have d5:a4<((rd_L2 l0 a2).length:Int):=zqo;obtain⟨w2,q8,f2⟩:=Kd.at_int h7.out a4 d1 d5
                cases q8
                replace d1:=eq_true d1;replace d5:=eq_true d5
                go_wp2_with (first|((with_reducible refine gate_callee (f:=54) rfl ?_);refine goesL_ (some 38) rfl rfl Try.func54 zqk rfl #[.int .i64 (rd (rd_L2 l0 a2) a4),.int .i64 0,.int .i64 1] rfl zq5 ?_;(with_reducible refine(spec_l1In.calls (rd (rd_L2 l0 a2) a4) 0 1 true _ x5.out).mono ?_);rintro e w' ⟨rfl,⟨nd,rfl⟩⟩;refine⟨_,rfl,?_⟩))
                go_roundg k2
                (case measure=> exact zq110);case rel=>exact⟨(wrap64 (a4+1)),zq6,H',⟨zq110⟩,zq8⟩
               ·replace j6:=Bool.eq_false_iff.mpr j6;subst j6;rw [if_neg (show¬(false=true) by decide)] at H;obtain rfl:=Option.some.inj H;have d0:0≤(a2:Int):=zqo;have d4:a2<(l0.length:Int):=zqo;obtain⟨o8,u7,v2,q7,f1,e7,e2⟩:=at_L2 b5.out a2 d0 d4;obtain rfl:o7=o8:=(by injection q7);have h7:=zqm e2;have t8:=zqm e7;clear e2 e7;replace d0:=eq_true d0;replace d4:=eq_true d4;have d1:0≤(a4:Int):=zqo;have d5:a4<((rd_L2 l0 a2).length:Int):=zqo;obtain⟨w2,q8,f2⟩:=Kd.at_int h7.out a4 d1 d5
                cases q8
                replace d1:=eq_true d1;replace d5:=eq_true d5
                go_wp2_with (first|((with_reducible refine gate_callee (f:=54) rfl ?_);refine goesL_ (some 38) rfl rfl Try.func54 zqk rfl #[.int .i64 (rd (rd_L2 l0 a2) a4),.int .i64 0,.int .i64 1] rfl zq5 ?_;(with_reducible refine(spec_l1In.calls (rd (rd_L2 l0 a2) a4) 0 1 false _ x5.out).mono ?_);rintro e w' ⟨rfl,⟨nd,rfl⟩⟩;refine⟨_,rfl,?_⟩))
                go_ret
                exact⟨zq6,zq8⟩
              ·rw [if_neg j5] at H;exact absurd H (by simp)
             ·rw [if_neg j3] at H;exact absurd H (by simp)
            ·rw [if_neg j2] at H;exact absurd H (by simp)
           ·rw [if_neg c9] at H;exact absurd H (by simp)
          ·rw [if_neg c8] at H;have l8:decide (a4<(l0.length:Int))=false:=decide_eq_false c8;clear c8;have H':=zqm H;clear H
           go_wp2
           go_roundg k2
           (case measure=> exact zq110);case rel=>exact⟨(wrap64 (a2+1)),zq6,H',⟨zq110⟩,zq8⟩
       ·rw [if_neg c7] at H;have i2:(((rd_L2 l0 a2).length:Int)==(l0.length:Int))=false:=beq_eq_false_iff_ne.mpr c7;have i3:(((rd_L2 l0 a2).length:Int) !=(l0.length:Int))=true:=bne_iff_ne.mpr c7;(have i4:((rd_L2 l0 a2).length==l0.length)=false:=by first|simpa using c7|(simp at c7 ⊢;omega));obtain rfl:=Option.some.inj H;have b7:0≤(a2:Int):=zqo;have b8:a2<(l0.length:Int):=zqo;obtain⟨o7,u6,v1,q6,b9,e6,e1⟩:=at_L2 b5.out a2 b7 b8
        cases q6
        have u2:=zqm e1;have t7:=zqm e6;clear e1 e6;replace b7:=eq_true b7;replace b8:=eq_true b8
        go_wp2
        go_ret
        exact⟨zq6,zq8⟩
      ·rw [if_neg c6] at H;exact absurd H (by simp)
     ·rw [if_neg c5] at H;exact absurd H (by simp)
    ·rw [if_neg c4] at H;have i1:decide (a2<(l0.length:Int))=false:=decide_eq_false c4;clear c4;have H':=zqm H;clear H
     go_wp2
     go_loopg [6] k1 (fun kq v6 w'=> ∃(a0:Int),v6= .int .i64 a0∧Aside0 (spec_OrderOk.l2 kq l0 (l0.length:Int) a0=some r)∧Aside0 (kq≤k1)∧Drawn0 w w')
     case atStart=>exact⟨(0),zq6,H',⟨Nat.le_refl _⟩,zq8⟩
     case round=>
      clear H';(try clear c1);(try clear p2);(try clear c3);(try clear c4);(try clear i1);(try clear p4);(try clear q4);(try clear t6);(try clear c5);(try clear l6);(try clear c6);(try clear l7);(try clear p6);(try clear c7);(try clear i2);(try clear i3);(try clear i4);(try clear c8);(try clear l8);(try clear c9);(try clear q0);(try clear j2);(try clear j8);(try clear j3);(try clear j9);(try clear j5);(try clear k0);(try clear j6);(try clear b9);(try clear f1);(try clear f2);(try clear p2);(try clear p4);(try clear b7);(try clear d0);(try clear d1);(try clear q4);(try clear b8);(try clear d4);(try clear d5);obtain⟨a0,rfl,HA,b3,⟨m2,rfl⟩⟩:=hrel
      cases gk with
      |zero=>exact absurd HA.out (by simp [spec_OrderOk.l2])
      |succ k2=>
       have H:=HA.out;clear HA;simp only [spec_OrderOk.l2] at H
       by_cases h1:a0<(l0.length:Int)
       ·rw [if_pos h1] at H;have k4:decide (a0<(l0.length:Int))=true:=decide_eq_true h1;clear h1;have H':=zqm H;clear H
        go_wp2
        go_loopg [7] k2 (fun kq v7 w'=> ∃(a1:Int),v7= .int .i64 a1∧Aside0 (spec_OrderOk.l3 kq l0 (l0.length:Int) a0 a1=some r)∧Aside0 (kq≤k2)∧Drawn0 w w')
        case atStart=>exact⟨(0),zq6,H',⟨Nat.le_refl _⟩,zq8⟩
        case round=>
         clear H';(try clear c1);(try clear p2);(try clear c3);(try clear c4);(try clear i1);(try clear p4);(try clear q4);(try clear t6);(try clear c5);(try clear l6);(try clear c6);(try clear l7);(try clear p6);(try clear c7);(try clear i2);(try clear i3);(try clear i4);(try clear c8);(try clear l8);(try clear c9);(try clear q0);(try clear j2);(try clear j8);(try clear j3);(try clear j9);(try clear j5);(try clear k0);(try clear j6);(try clear h1);(try clear k4);(try clear b9);(try clear f1);(try clear f2);(try clear p2);(try clear p4);(try clear b7);(try clear d0);(try clear d1);(try clear p6);(try clear q4);(try clear b8);(try clear d4);(try clear d5);obtain⟨a1,rfl,HA,d8,⟨m3,rfl⟩⟩:=hrel
         cases gk with
         |zero=>exact absurd HA.out (by simp [spec_OrderOk.l3])
         |succ k3=>
          have H:=HA.out;clear HA;simp only [spec_OrderOk.l3] at H
          by_cases j7:a1<(l0.length:Int)
          ·rw [if_pos j7] at H;have p1:decide (a1<(l0.length:Int))=true:=decide_eq_true j7;clear j7;have q5:=zqm H;clear H
           go_upto_region 20 with (fail)
           go_cut [87] (fun y3 wc=> ∃(kq:Nat) (h5:Bool),y3= .bool h5∧Aside0 (spec_OrderOk.j4 kq l0 (l0.length:Int) a0 a1 h5=some r)∧Aside0 (kq≤k3)∧Drawn0 w wc)
           case first=>
            have H:=q5.out;clear q5
            by_cases h2:a0=a1
            ·rw [if_pos h2] at H;have f4:(a0==a1)=true:=beq_iff_eq.mpr h2;have p3:(a0 !=a1)=false:=bne_eq_false_iff_eq.mpr h2;clear h2;(first|rw [f4]|(simp only [i64_w,i32_w];rw [f4])|skip)
             by_cases n0:0≤a0
             ·rw [if_pos n0] at H;have r8:decide (0≤a0)=true:=decide_eq_true n0;clear n0
              by_cases n1:a0<(l0.length:Int)
              ·rw [if_pos n1] at H;have r9:decide (a0<(l0.length:Int))=true:=decide_eq_true n1;clear n1
               by_cases n2:0≤a1
               ·rw [if_pos n2] at H;have s0:decide (0≤a1)=true:=decide_eq_true n2;clear n2
                by_cases n3:a1<((rd_L2 l0 a0).length:Int)
                ·rw [if_pos n3] at H;have s1:decide (a1<((rd_L2 l0 a0).length:Int))=true:=decide_eq_true n3;clear n3
                 by_cases h3:(rd (rd_L2 l0 a0) a1)=0
                 ·rw [if_pos h3] at H;have p5:((rd (rd_L2 l0 a0) a1)==0)=true:=beq_iff_eq.mpr h3;have p7:((rd (rd_L2 l0 a0) a1) !=0)=false:=bne_eq_false_iff_eq.mpr h3;clear h3;have H':=zqm H;clear H;have f5:0≤(a0:Int):=zqo;have f9:a0<(l0.length:Int):=zqo;obtain⟨w3,u8,v3,q9,i5,e8,e3⟩:=at_L2 b5.out a0 f5 f9
                  cases q9
                  have h8:=zqm e3;have t9:=zqm e8;clear e3 e8;replace f5:=eq_true f5;replace f9:=eq_true f9;have f6:0≤(a1:Int):=zqo;have g0:a1<((rd_L2 l0 a0).length:Int):=zqo;obtain⟨w4,r0,i6⟩:=Kd.at_int h8.out a1 f6 g0
                  cases r0
                  replace f6:=eq_true f6;replace g0:=eq_true g0
                  go_wp2
                  go_meet
                  case rel=>exact⟨_,(true),zq6,H',⟨zq116⟩,zq8⟩
                 ·rw [if_neg h3] at H;have p5:((rd (rd_L2 l0 a0) a1)==0)=false:=beq_eq_false_iff_ne.mpr h3;have p7:((rd (rd_L2 l0 a0) a1) !=0)=true:=bne_iff_ne.mpr h3;have H':=zqm H;clear H;have f5:0≤(a0:Int):=zqo;have f9:a0<(l0.length:Int):=zqo;obtain⟨w3,u8,v3,q9,i5,e8,e3⟩:=at_L2 b5.out a0 f5 f9
                  cases q9
                  have h8:=zqm e3;have t9:=zqm e8;clear e3 e8;replace f5:=eq_true f5;replace f9:=eq_true f9;have f6:0≤(a1:Int):=zqo;have g0:a1<((rd_L2 l0 a0).length:Int):=zqo;obtain⟨w4,r0,i6⟩:=Kd.at_int h8.out a1 f6 g0
                  cases r0
                  replace f6:=eq_true f6;replace g0:=eq_true g0
                  go_wp2
                  go_meet
                  case rel=>exact⟨_,(false),zq6,H',⟨zq116⟩,zq8⟩
                ·rw [if_neg n3] at H;exact absurd H (by simp)
               ·rw [if_neg n2] at H;exact absurd H (by simp)
              ·rw [if_neg n1] at H;exact absurd H (by simp)
             ·rw [if_neg n0] at H;exact absurd H (by simp)
            ·rw [if_neg h2] at H;have f4:(a0==a1)=false:=beq_eq_false_iff_ne.mpr h2;have p3:(a0 !=a1)=true:=bne_iff_ne.mpr h2;(first|rw [f4]|(simp only [i64_w,i32_w];rw [f4])|skip)
             by_cases n4:0≤a0
             ·rw [if_pos n4] at H;have s2:decide (0≤a0)=true:=decide_eq_true n4;clear n4
              by_cases n5:a0<(l0.length:Int)
              ·rw [if_pos n5] at H;have s3:decide (a0<(l0.length:Int))=true:=decide_eq_true n5;clear n5
               by_cases n6:0≤a1
               ·rw [if_pos n6] at H;have s4:decide (0≤a1)=true:=decide_eq_true n6;clear n6
                by_cases n7:a1<((rd_L2 l0 a0).length:Int)
                ·rw [if_pos n7] at H;have s5:decide (a1<((rd_L2 l0 a0).length:Int))=true:=decide_eq_true n7;clear n7
                 by_cases h4:(rd (rd_L2 l0 a0) a1)=1
                 ·rw [if_pos h4] at H;have p8:((rd (rd_L2 l0 a0) a1)==1)=true:=beq_iff_eq.mpr h4;have p9:((rd (rd_L2 l0 a0) a1) !=1)=false:=bne_eq_false_iff_eq.mpr h4;clear h4
                  by_cases n8:a1<(l0.length:Int)
                  ·rw [if_pos n8] at H;have s6:decide (a1<(l0.length:Int))=true:=decide_eq_true n8;clear n8
                   by_cases n9:a0<((rd_L2 l0 a1).length:Int)
                   ·rw [if_pos n9] at H;have s7:decide (a0<((rd_L2 l0 a1).length:Int))=true:=decide_eq_true n9;clear n9;have H':=zqm H;clear H;have f7:0≤(a0:Int):=zqo;have g1:a0<(l0.length:Int):=zqo;obtain⟨r6,u9,v9,r1,i7,e9,e4⟩:=at_L2 b5.out a0 f7 g1
                    cases r1
                    have h9:=zqm e4;have u0:=zqm e9;clear e4 e9;replace f7:=eq_true f7;replace g1:=eq_true g1;have f8:0≤(a1:Int):=zqo;have g2:a1<((rd_L2 l0 a0).length:Int):=zqo;obtain⟨w5,r2,i8⟩:=Kd.at_int h9.out a1 f8 g2
                    cases r2
                    replace f8:=eq_true f8;replace g2:=eq_true g2;have m4:0≤(a1:Int):=zqo;have m7:a1<(l0.length:Int):=zqo;obtain⟨w6,y1,y2,x7,o3,o2,o1⟩:=at_L2 b5.out a1 m4 m7;obtain rfl:r6=w6:=(by injection x7);have u3:=zqm o1;have y0:=zqm o2;clear o1 o2;replace m4:=eq_true m4;replace m7:=eq_true m7;have m6:0≤(a0:Int):=zqo;have m8:a0<((rd_L2 l0 a1).length:Int):=zqo;obtain⟨y4,x8,o4⟩:=Kd.at_int u3.out a0 m6 m8
                    cases x8
                    replace m6:=eq_true m6;replace m8:=eq_true m8
                    go_wp2
                    go_meet
                    case rel=>exact⟨_,(((rd (rd_L2 l0 a1) a0)==1)),zq6,H',⟨zq116⟩,zq8⟩
                   ·rw [if_neg n9] at H;exact absurd H (by simp)
                  ·rw [if_neg n8] at H;exact absurd H (by simp)
                 ·rw [if_neg h4] at H;have p8:((rd (rd_L2 l0 a0) a1)==1)=false:=beq_eq_false_iff_ne.mpr h4;have p9:((rd (rd_L2 l0 a0) a1) !=1)=true:=bne_iff_ne.mpr h4;have H':=zqm H;clear H;have f7:0≤(a0:Int):=zqo;have g1:a0<(l0.length:Int):=zqo;obtain⟨r6,u9,v9,r1,i7,e9,e4⟩:=at_L2 b5.out a0 f7 g1
                  cases r1
                  have h9:=zqm e4;have u0:=zqm e9;clear e4 e9;replace f7:=eq_true f7;replace g1:=eq_true g1;have f8:0≤(a1:Int):=zqo;have g2:a1<((rd_L2 l0 a0).length:Int):=zqo;obtain⟨w5,r2,i8⟩:=Kd.at_int h9.out a1 f8 g2
                  cases r2
                  replace f8:=eq_true f8;replace g2:=eq_true g2
                  go_wp2
                  go_meet
                  case rel=>exact⟨_,(false),zq6,H',⟨zq116⟩,zq8⟩
                ·rw [if_neg n7] at H;exact absurd H (by simp)
               ·rw [if_neg n6] at H;exact absurd H (by simp)
              ·rw [if_neg n5] at H;exact absurd H (by simp)
             ·rw [if_neg n4] at H;exact absurd H (by simp)
           case rest=>
            clear q5;(try clear c1);(try clear c2);(try clear p2);(try clear c3);(try clear c4);(try clear i1);(try clear p4);(try clear q4);(try clear t6);(try clear c5);(try clear l6);(try clear c6);(try clear l7);(try clear p6);(try clear c7);(try clear i2);(try clear i3);(try clear i4);(try clear c8);(try clear l8);(try clear c9);(try clear q0);(try clear j2);(try clear j8);(try clear j3);(try clear j9);(try clear j5);(try clear k0);(try clear j6);(try clear h1);(try clear k4);(try clear j7);(try clear p1);(try clear h2);(try clear f4);(try clear p3);(try clear n0);(try clear r8);(try clear n1);(try clear r9);(try clear n2);(try clear s0);(try clear n3);(try clear s1);(try clear h3);(try clear p5);(try clear p7);(try clear n4);(try clear s2);(try clear n5);(try clear s3);(try clear n6);(try clear s4);(try clear n7);(try clear s5);(try clear h4);(try clear p8);(try clear p9);(try clear n8);(try clear s6);(try clear n9);(try clear s7);(try clear b9);(try clear f1);(try clear f2);(try clear i5);(try clear i6);(try clear i7);(try clear i8);(try clear o3);(try clear o4);(try clear p2);(try clear p4);(try clear b7);(try clear d0);(try clear d1);(try clear f5);(try clear f6);(try clear f7);(try clear f8);(try clear m4);(try clear m6);(try clear p6);(try clear q4);(try clear b8);(try clear d4);(try clear d5);(try clear f9);(try clear g0);(try clear g1);(try clear g2);(try clear m7);(try clear m8);obtain⟨kq,h5,rfl,HA,g3,⟨mc16,rfl⟩⟩:=hcut
            cases kq with
            |zero=>exact absurd HA.out (by simp [spec_OrderOk.j4])
            |succ w1=>
             have H:=HA.out;clear HA;simp only [spec_OrderOk.j4] at H
             by_cases q2:h5=true
             ·subst q2;rw [if_pos rfl] at H;obtain rfl:=Option.some.inj H
              go_wp2
              go_ret
              exact⟨zq6,zq8⟩
             ·replace q2:=Bool.eq_false_iff.mpr q2;subst q2;rw [if_neg (show¬(false=true) by decide)] at H;have H':=zqm H;clear H
              go_wp2
              go_loopg [8] w1 (fun kq v8 w'=> ∃(a3:Int),v8= .int .i64 a3∧Aside0 (spec_OrderOk.l4 kq l0 (l0.length:Int) a0 a1 a3=some r)∧Aside0 (kq≤w1)∧Drawn0 w w')
              case atStart=>exact⟨(0),zq6,H',⟨Nat.le_refl _⟩,zq8⟩
              case round=>
               clear H';(try clear c1);(try clear c2);(try clear p2);(try clear c3);(try clear c4);(try clear i1);(try clear p4);(try clear q4);(try clear t6);(try clear c5);(try clear l6);(try clear c6);(try clear l7);(try clear p6);(try clear c7);(try clear i2);(try clear i3);(try clear i4);(try clear c8);(try clear l8);(try clear c9);(try clear q0);(try clear j2);(try clear j8);(try clear j3);(try clear j9);(try clear j5);(try clear k0);(try clear j6);(try clear h1);(try clear k4);(try clear j7);(try clear p1);(try clear h2);(try clear f4);(try clear p3);(try clear n0);(try clear r8);(try clear n1);(try clear r9);(try clear n2);(try clear s0);(try clear n3);(try clear s1);(try clear h3);(try clear p5);(try clear p7);(try clear n4);(try clear s2);(try clear n5);(try clear s3);(try clear n6);(try clear s4);(try clear n7);(try clear s5);(try clear h4);(try clear p8);(try clear p9);(try clear n8);(try clear s6);(try clear n9);(try clear s7);(try clear q2);(try clear b9);(try clear f1);(try clear f2);(try clear i5);(try clear i6);(try clear i7);(try clear i8);(try clear o3);(try clear o4);(try clear p2);(try clear p4);(try clear b7);(try clear d0);(try clear d1);(try clear f5);(try clear f6);(try clear f7);(try clear f8);(try clear m4);(try clear m6);(try clear p6);(try clear q4);(try clear b8);(try clear d4);(try clear d5);(try clear f9);(try clear g0);(try clear g1);(try clear g2);(try clear m7);(try clear m8);obtain⟨a3,rfl,HA,j1,⟨m5,rfl⟩⟩:=hrel
               cases gk with
               |zero=>exact absurd HA.out (by simp [spec_OrderOk.l4])
               |succ k5=>
                have H:=HA.out;clear HA;simp only [spec_OrderOk.l4] at H
                by_cases o0:a3<(l0.length:Int)
                ·rw [if_pos o0] at H;have w8:decide (a3<(l0.length:Int))=true:=decide_eq_true o0;clear o0
                 by_cases s8:0≤a0
                 ·rw [if_pos s8] at H;have y5:decide (0≤a0)=true:=decide_eq_true s8;clear s8
                  by_cases s9:a0<(l0.length:Int)
                  ·rw [if_pos s9] at H;have y6:decide (a0<(l0.length:Int))=true:=decide_eq_true s9;clear s9
                   by_cases t0:0≤a1
                   ·rw [if_pos t0] at H;have y7:decide (0≤a1)=true:=decide_eq_true t0;clear t0
                    by_cases t1:a1<((rd_L2 l0 a0).length:Int)
                    ·rw [if_pos t1] at H;have y8:decide (a1<((rd_L2 l0 a0).length:Int))=true:=decide_eq_true t1;clear t1
                     by_cases k7:(rd (rd_L2 l0 a0) a1)=1
                     ·rw [if_pos k7] at H;have w9:((rd (rd_L2 l0 a0) a1)==1)=true:=beq_iff_eq.mpr k7;have x0:((rd (rd_L2 l0 a0) a1) !=1)=false:=bne_eq_false_iff_eq.mpr k7;clear k7
                      by_cases t2:a1<(l0.length:Int)
                      ·rw [if_pos t2] at H;have y9:decide (a1<(l0.length:Int))=true:=decide_eq_true t2;clear t2
                       by_cases t3:0≤a3
                       ·rw [if_pos t3] at H;have z0:decide (0≤a3)=true:=decide_eq_true t3;clear t3
                        by_cases t4:a3<((rd_L2 l0 a1).length:Int)
                        ·rw [if_pos t4] at H;have z1:decide (a3<((rd_L2 l0 a1).length:Int))=true:=decide_eq_true t4;clear t4
                         by_cases k8:(rd (rd_L2 l0 a1) a3)=1
                         ·rw [if_pos k8] at H;have x1:((rd (rd_L2 l0 a1) a3)==1)=true:=beq_iff_eq.mpr k8;have x2:((rd (rd_L2 l0 a1) a3) !=1)=false:=bne_eq_false_iff_eq.mpr k8;clear k8
                          by_cases t5:a3<((rd_L2 l0 a0).length:Int)
                          ·rw [if_pos t5] at H;have z2:decide (a3<((rd_L2 l0 a0).length:Int))=true:=decide_eq_true t5;clear t5
                           by_cases k9:(rd (rd_L2 l0 a0) a3)=0
                           ·rw [if_pos k9] at H;have x3:((rd (rd_L2 l0 a0) a3)==0)=true:=beq_iff_eq.mpr k9;have x4:((rd (rd_L2 l0 a0) a3) !=0)=false:=bne_eq_false_iff_eq.mpr k9;clear k9;obtain rfl:=Option.some.inj H;have a7:0≤(a0:Int):=zqo;have a9:a0<(l0.length:Int):=zqo;obtain⟨d9,k6,l5,g4,f3,a6,a5⟩:=at_L2 b5.out a0 a7 a9
                            cases g4
                            have b6:=zqm a5;have h6:=zqm a6;clear a5 a6;replace a7:=eq_true a7;replace a9:=eq_true a9;have a8:0≤(a1:Int):=zqo;have b0:a1<((rd_L2 l0 a0).length:Int):=zqo;obtain⟨o9,g5,i9⟩:=Kd.at_int b6.out a1 a8 b0
                            cases g5
                            replace a8:=eq_true a8;replace b0:=eq_true b0;have d2:0≤(a1:Int):=zqo;have d6:a1<(l0.length:Int):=zqo;obtain⟨h0,q1,q3,l9,o5,b2,b1⟩:=at_L2 b5.out a1 d2 d6;obtain rfl:d9=h0:=(by injection l9);have e0:=zqm b1;have m9:=zqm b2;clear b1 b2;replace d2:=eq_true d2;replace d6:=eq_true d6;have d3:0≤(a3:Int):=zqo;have d7:a3<((rd_L2 l0 a1).length:Int):=zqo;obtain⟨r7,m0,o6⟩:=Kd.at_int e0.out a3 d3 d7
                            cases m0
                            replace d3:=eq_true d3;replace d7:=eq_true d7;have g6:0≤(a0:Int):=zqo;have g8:a0<(l0.length:Int):=zqo;obtain⟨p0,v0,w0,r3,j0,f0,e5⟩:=at_L2 b5.out a0 g6 g8;obtain rfl:d9=p0:=(by injection r3);have i0:=zqm e5;have u1:=zqm f0;clear e5 f0;replace g6:=eq_true g6;replace g8:=eq_true g8;have ea_:=Option.some.inj (f3.symm.trans j0);injection ea_ with ea_ en_ ec_;subst ea_;subst ec_;clear en_;have g7:0≤(a3:Int):=zqo;have g9:a3<((rd_L2 l0 a0).length:Int):=zqo;obtain⟨w7,r4,u4⟩:=Kd.at_int i0.out a3 g7 g9
                            cases r4
                            replace g7:=eq_true g7;replace g9:=eq_true g9
                            go_wp2
                            go_ret
                            exact⟨zq6,zq8⟩
                           ·rw [if_neg k9] at H;have x3:((rd (rd_L2 l0 a0) a3)==0)=false:=beq_eq_false_iff_ne.mpr k9;have x4:((rd (rd_L2 l0 a0) a3) !=0)=true:=bne_iff_ne.mpr k9;have H':=zqm H;clear H;have a7:0≤(a0:Int):=zqo;have a9:a0<(l0.length:Int):=zqo;obtain⟨d9,k6,l5,g4,f3,a6,a5⟩:=at_L2 b5.out a0 a7 a9
                            cases g4
                            have b6:=zqm a5;have h6:=zqm a6;clear a5 a6;replace a7:=eq_true a7;replace a9:=eq_true a9;have a8:0≤(a1:Int):=zqo;have b0:a1<((rd_L2 l0 a0).length:Int):=zqo;obtain⟨o9,g5,i9⟩:=Kd.at_int b6.out a1 a8 b0
                            cases g5
                            replace a8:=eq_true a8;replace b0:=eq_true b0;have d2:0≤(a1:Int):=zqo;have d6:a1<(l0.length:Int):=zqo;obtain⟨h0,q1,q3,l9,o5,b2,b1⟩:=at_L2 b5.out a1 d2 d6;obtain rfl:d9=h0:=(by injection l9);have e0:=zqm b1;have m9:=zqm b2;clear b1 b2;replace d2:=eq_true d2;replace d6:=eq_true d6;have d3:0≤(a3:Int):=zqo;have d7:a3<((rd_L2 l0 a1).length:Int):=zqo;obtain⟨r7,m0,o6⟩:=Kd.at_int e0.out a3 d3 d7
                            cases m0
                            replace d3:=eq_true d3;replace d7:=eq_true d7;have g6:0≤(a0:Int):=zqo;have g8:a0<(l0.length:Int):=zqo;obtain⟨p0,v0,w0,r3,j0,f0,e5⟩:=at_L2 b5.out a0 g6 g8;obtain rfl:d9=p0:=(by injection r3);have i0:=zqm e5;have u1:=zqm f0;clear e5 f0;replace g6:=eq_true g6;replace g8:=eq_true g8;have ea_:=Option.some.inj (f3.symm.trans j0);injection ea_ with ea_ en_ ec_;subst ea_;subst ec_;clear en_;have g7:0≤(a3:Int):=zqo;have g9:a3<((rd_L2 l0 a0).length:Int):=zqo;obtain⟨w7,r4,u4⟩:=Kd.at_int i0.out a3 g7 g9
                            cases r4
                            replace g7:=eq_true g7;replace g9:=eq_true g9
                            go_wp2
                            go_roundg k5
                            (case measure=> exact zq60);case rel=>exact⟨(wrap64 (a3+1)),zq6,H',⟨zq60⟩,zq8⟩
                          ·rw [if_neg t5] at H;exact absurd H (by simp)
                         ·rw [if_neg k8] at H;have x1:((rd (rd_L2 l0 a1) a3)==1)=false:=beq_eq_false_iff_ne.mpr k8;have x2:((rd (rd_L2 l0 a1) a3) !=1)=true:=bne_iff_ne.mpr k8;have H':=zqm H;clear H;have a7:0≤(a0:Int):=zqo;have a9:a0<(l0.length:Int):=zqo;obtain⟨d9,k6,l5,g4,f3,a6,a5⟩:=at_L2 b5.out a0 a7 a9
                          cases g4
                          have b6:=zqm a5;have h6:=zqm a6;clear a5 a6;replace a7:=eq_true a7;replace a9:=eq_true a9;have a8:0≤(a1:Int):=zqo;have b0:a1<((rd_L2 l0 a0).length:Int):=zqo;obtain⟨o9,g5,i9⟩:=Kd.at_int b6.out a1 a8 b0
                          cases g5
                          replace a8:=eq_true a8;replace b0:=eq_true b0;have d2:0≤(a1:Int):=zqo;have d6:a1<(l0.length:Int):=zqo;obtain⟨h0,q1,q3,l9,o5,b2,b1⟩:=at_L2 b5.out a1 d2 d6;obtain rfl:d9=h0:=(by injection l9);have e0:=zqm b1;have m9:=zqm b2;clear b1 b2;replace d2:=eq_true d2;replace d6:=eq_true d6;have d3:0≤(a3:Int):=zqo;have d7:a3<((rd_L2 l0 a1).length:Int):=zqo;obtain⟨r7,m0,o6⟩:=Kd.at_int e0.out a3 d3 d7
                          cases m0
                          replace d3:=eq_true d3;replace d7:=eq_true d7
                          go_wp2
                          go_roundg k5
                          (case measure=> exact zq60);case rel=>exact⟨(wrap64 (a3+1)),zq6,H',⟨zq60⟩,zq8⟩
                        ·rw [if_neg t4] at H;exact absurd H (by simp)
                       ·rw [if_neg t3] at H;exact absurd H (by simp)
                      ·rw [if_neg t2] at H;exact absurd H (by simp)
                     ·rw [if_neg k7] at H;have w9:((rd (rd_L2 l0 a0) a1)==1)=false:=beq_eq_false_iff_ne.mpr k7;have x0:((rd (rd_L2 l0 a0) a1) !=1)=true:=bne_iff_ne.mpr k7;have H':=zqm H;clear H;have a7:0≤(a0:Int):=zqo;have a9:a0<(l0.length:Int):=zqo;obtain⟨d9,k6,l5,g4,f3,a6,a5⟩:=at_L2 b5.out a0 a7 a9
                      cases g4
                      have b6:=zqm a5;have h6:=zqm a6;clear a5 a6;replace a7:=eq_true a7;replace a9:=eq_true a9;have a8:0≤(a1:Int):=zqo;have b0:a1<((rd_L2 l0 a0).length:Int):=zqo;obtain⟨o9,g5,i9⟩:=Kd.at_int b6.out a1 a8 b0
                      cases g5
                      replace a8:=eq_true a8;replace b0:=eq_true b0
                      go_wp2
                      go_roundg k5
                      (case measure=> exact zq60);case rel=>exact⟨(wrap64 (a3+1)),zq6,H',⟨zq60⟩,zq8⟩
                    ·rw [if_neg t1] at H;exact absurd H (by simp)
                   ·rw [if_neg t0] at H;exact absurd H (by simp)
                  ·rw [if_neg s9] at H;exact absurd H (by simp)
                 ·rw [if_neg s8] at H;exact absurd H (by simp)
                ·rw [if_neg o0] at H;have w8:decide (a3<(l0.length:Int))=false:=decide_eq_false o0;clear o0;have H':=zqm H;clear H
                 go_wp2
                 go_roundg k5
                 (case measure=> exact zq60);case rel=>exact⟨(wrap64 (a1+1)),zq6,H',⟨zq60⟩,zq8⟩
          ·rw [if_neg j7] at H;have p1:decide (a1<(l0.length:Int))=false:=decide_eq_false j7;clear j7;have H':=zqm H;clear H
           go_wp2
           go_roundg k3
           (case measure=>have:=b4.out;have:=b3.out;have:=d8.out;omega);case rel=>exact⟨(wrap64 (a0+1)),zq6,H',⟨by have:=b4.out;have:=b3.out;have:=d8.out;omega⟩,zq8⟩
       ·rw [if_neg h1] at H;have k4:decide (a0<(l0.length:Int))=false:=decide_eq_false h1;clear h1;obtain rfl:=Option.some.inj H
        go_wp2
        go_ret
        exact⟨zq6,zq8⟩
 ·replace c3:=Bool.eq_false_iff.mpr c3;subst c3;rw [if_neg (show¬(false=true) by decide)] at H;obtain rfl:=Option.some.inj H
  go_enter Try.func59,Try.ntmps59
  go_wp2_with (first|((with_reducible refine gate_callee (f:=54) rfl ?_);refine goesL_ (some 12) rfl rfl Try.func54 zqk rfl #[.int .i64 (l0.length:Int),.int .i64 1,.int .i64 12] rfl zq5 ?_;(with_reducible refine(spec_l1In.calls (l0.length:Int) 1 12 false _ A2.out).mono ?_);rintro e w' ⟨rfl,⟨nd,rfl⟩⟩;refine⟨_,rfl,?_⟩))
  go_ret
  exact⟨zq6,zq8⟩
end
section
attribute [local go_sem] max2_int min2_int max_two min_two max_three min_three max_four min_four
mutual
def spec_LatticeOk.l0 : Nat → List (List Int) → Int → Option (Bool)
 | 0, _, _ => none
 | k + 1, x0, x3 => if x3 < (x0.length : Int) then ((spec_OrderOk.f k x0).bind fun t488 => (spec_LatticeOk.j1 k x0 x3 t488)) else (spec_LatticeOk.j1 k x0 x3 false)
def spec_LatticeOk.j1 : Nat → List (List Int) → Int → Bool → Option (Bool)
 | 0, _, _, _ => none
 | k + 1, x0, x3, x12 => if x12 = true then (spec_LatticeOk.l1 k x0 x3 0) else ((spec_OrderOk.f k x0).bind fun t489 => (some t489))
def spec_LatticeOk.l1 : Nat → List (List Int) → Int → Int → Option (Bool)
 | 0, _, _, _ => none
 | k + 1, x0, x3, x4 => if x4 < x3 then ((spec_l1Meet.f k x0 x3 x4).bind fun t490 => (if t490 < 0 then (some false) else ((spec_l1Join.f k x0 x3 x4).bind fun t491 => (if t491 < 0 then (some false) else (spec_LatticeOk.l1 k x0 x3 (wrap64 (x4 + 1))))))) else (spec_LatticeOk.l0 k x0 (wrap64 (x3 + 1)))
end
def spec_LatticeOk.f (k : Nat) (l0 : List (List Int)) : Option (Bool) := spec_LatticeOk.l0 k l0 0
set_option maxHeartbeats 8000000 in
set_option maxRecDepth 100000 in
theorem spec_LatticeOk.calls (k : Nat) (A0 : Option Addr) (c0 : Nat) (l0 : List (List Int)) (r : Bool) (w : World) (hr0 : Kd.C (Kd.slice 3 (Kd.int .i64)) w A0 l0.length l0) (hc0 : l0.length ≤ c0) (h : spec_LatticeOk.f k l0 = some r) :
  Calls Try.prog 53 #[.slice A0 l0.length c0] w fun e w' => e = .returned (.bool r) ∧ Drawn0 w w' := by
 have a5:=zqm hr0;have a4:=zqm hc0;clear hr0 hc0;have H:(spec_LatticeOk.l0 k l0 0)=some r:=h;clear h;have H':=zqm H;clear H
 go_enter Try.func53,Try.ntmps53
 go_wp2
 go_loopg [3] k (fun kq v3 w'=> ∃(a0:Int),v3= .int .i64 a0∧Aside0 (spec_LatticeOk.l0 kq l0 a0=some r)∧Aside0 (kq≤k)∧Drawn0 w w')
 case atStart=>exact⟨(0),zq6,H',⟨Nat.le_refl _⟩,zq8⟩
 case round=>
  clear H';obtain⟨a0,rfl,HA,a8,⟨m1,rfl⟩⟩:=hrel
  cases gk with
  |zero=>exact absurd HA.out (by simp [spec_LatticeOk.l0])
  |succ k1=>
   have H:=HA.out;clear HA;simp only [spec_LatticeOk.l0] at H;have b3:=zqm H;clear H
   go_upto_region 2 with (fail)
   go_cut [12] (fun c9 wc=> ∃(kq:Nat) (a3:Bool),c9= .bool a3∧Aside0 (spec_LatticeOk.j1 kq l0 a0 a3=some r)∧Aside0 (kq≤k1)∧Drawn0 w wc)
   case first=>
    have H:=b3.out;clear b3
    by_cases c3:a0<(l0.length:Int)
    ·rw [if_pos c3] at H;have a6:decide (a0<(l0.length:Int))=true:=decide_eq_true c3;clear c3;(first|rw [a6]|(simp only [i64_w,i32_w];rw [a6])|skip);replace H:=Option.bind_eq_some_iff.mp H;obtain⟨b5,b7,H⟩:=H;(try dsimp only at H);have A4:=zqm b7;clear b7;have H':=zqm H;clear H
     go_wp2_with (first|(go_at_call 59;(with_reducible refine(spec_OrderOk.calls k1 _ _ l0 b5 _ ?side1 ?side2 A4.out).mono ?_);(case side1=> exact zq30);(case side2=>exact a4.out);rintro e w' ⟨rfl,⟨nd,rfl⟩⟩))
     go_meet
     case rel=>exact⟨_,(b5),zq6,H',⟨by have:=a8.out;first|omega|exact Nat.le_refl _⟩,zq8⟩
    ·rw [if_neg c3] at H;have a6:decide (a0<(l0.length:Int))=false:=decide_eq_false c3;clear c3;(first|rw [a6]|(simp only [i64_w,i32_w];rw [a6])|skip);have H':=zqm H;clear H
     go_wp2
     go_meet
     case rel=>exact⟨_,(false),zq6,H',⟨by have:=a8.out;first|omega|exact Nat.le_refl _⟩,zq8⟩
   case rest=>
    clear b3;obtain⟨kq,a3,rfl,HA,b0,⟨mc1,rfl⟩⟩:=hcut
    cases kq with
    |zero=>exact absurd HA.out (by simp [spec_LatticeOk.j1])
    |succ b4=>
     have H:=HA.out;clear HA;simp only [spec_LatticeOk.j1] at H
     by_cases c5:a3=true
     ·subst c5;rw [if_pos rfl] at H;have H':=zqm H;clear H
      go_wp2
      go_loopg [4] b4 (fun kq v4 w'=> ∃(a1:Int),v4= .int .i64 a1∧Aside0 (spec_LatticeOk.l1 kq l0 a0 a1=some r)∧Aside0 (kq≤b4)∧Drawn0 w w')
      case atStart=>exact⟨(0),zq6,H',⟨Nat.le_refl _⟩,zq8⟩
      case round=>
       clear H';obtain⟨a1,rfl,HA,b1,⟨m3,rfl⟩⟩:=hrel
       cases gk with
       |zero=>exact absurd HA.out (by simp [spec_LatticeOk.l1])
       |succ k3=>
        have H:=HA.out;clear HA;simp only [spec_LatticeOk.l1] at H
        by_cases c6:a1<a0
        ·rw [if_pos c6] at H;have c1:decide (a1<a0)=true:=decide_eq_true c6;clear c6;replace H:=Option.bind_eq_some_iff.mp H;obtain⟨a2,b8,H⟩:=H;(try dsimp only at H);have A7:=zqm b8;clear b8
         by_cases c8:a2<0
         ·rw [if_pos c8] at H;have c2:decide (a2<0)=true:=decide_eq_true c8;clear c8;obtain rfl:=Option.some.inj H
          go_wp2_with (first|((with_reducible refine gate_callee (f:=25) rfl ?_);refine goesL_ (some 23) rfl rfl Try.func25 zqk rfl #[.slice A0 l0.length c0,.int .i64 a0,.int .i64 a1] rfl zq5 ?_;(with_reducible refine(spec_l1Meet.calls k3 _ _ l0 a0 a1 a2 _ ?side1 ?side2 A7.out).mono ?_);(case side1=> exact zq30);(case side2=>exact a4.out);rintro e w' ⟨rfl,⟨nd,rfl⟩⟩;refine⟨_,rfl,?_⟩))
          go_ret
          exact⟨zq6,zq8⟩
         ·rw [if_neg c8] at H;have c2:decide (a2<0)=false:=decide_eq_false c8;clear c8;replace H:=Option.bind_eq_some_iff.mp H;obtain⟨a7,b9,H⟩:=H;(try dsimp only at H);have A9:=zqm b9;clear b9
          by_cases a9:a7<0
          ·rw [if_pos a9] at H;have b6:decide (a7<0)=true:=decide_eq_true a9;clear a9;obtain rfl:=Option.some.inj H
           go_wp2_with (first|((with_reducible refine gate_callee (f:=25) rfl ?_);refine goesL_ (some 23) rfl rfl Try.func25 zqk rfl #[.slice A0 l0.length c0,.int .i64 a0,.int .i64 a1] rfl zq5 ?_;(with_reducible refine(spec_l1Meet.calls k3 _ _ l0 a0 a1 a2 _ ?side1 ?side2 A7.out).mono ?_);(case side1=> exact zq30);(case side2=>exact a4.out);rintro e w' ⟨rfl,⟨nd,rfl⟩⟩;refine⟨_,rfl,?_⟩)|(go_at_call 24;(with_reducible refine(spec_l1Join.calls k3 _ _ l0 a0 a1 a7 _ ?side1 ?side2 A9.out).mono ?_);(case side1=> exact zq30);(case side2=>exact a4.out);rintro e w' ⟨rfl,⟨nd,rfl⟩⟩))
           go_ret
           exact⟨zq6,zq8⟩
          ·rw [if_neg a9] at H;have b6:decide (a7<0)=false:=decide_eq_false a9;clear a9;have H':=zqm H;clear H
           go_wp2_with (first|((with_reducible refine gate_callee (f:=25) rfl ?_);refine goesL_ (some 23) rfl rfl Try.func25 zqk rfl #[.slice A0 l0.length c0,.int .i64 a0,.int .i64 a1] rfl zq5 ?_;(with_reducible refine(spec_l1Meet.calls k3 _ _ l0 a0 a1 a2 _ ?side1 ?side2 A7.out).mono ?_);(case side1=> exact zq30);(case side2=>exact a4.out);rintro e w' ⟨rfl,⟨nd,rfl⟩⟩;refine⟨_,rfl,?_⟩)|(go_at_call 24;(with_reducible refine(spec_l1Join.calls k3 _ _ l0 a0 a1 a7 _ ?side1 ?side2 A9.out).mono ?_);(case side1=> exact zq30);(case side2=>exact a4.out);rintro e w' ⟨rfl,⟨nd,rfl⟩⟩))
           go_roundg k3
           (case measure=> exact zq142);case rel=>exact⟨(wrap64 (a1+1)),zq6,H',⟨zq142⟩,zq8⟩
        ·rw [if_neg c6] at H;have c1:decide (a1<a0)=false:=decide_eq_false c6;clear c6;have H':=zqm H;clear H
         go_wp2
         go_roundg k3
         (case measure=> exact zq142);case rel=>exact⟨(wrap64 (a0+1)),zq6,H',⟨zq142⟩,zq8⟩
     ·replace c5:=Bool.eq_false_iff.mpr c5;subst c5;rw [if_neg (show¬(false=true) by decide)] at H;replace H:=Option.bind_eq_some_iff.mp H;obtain⟨c4,b2,H⟩:=H;(try dsimp only at H);have c7:=zqm b2;clear b2;obtain rfl:=Option.some.inj H
      go_wp2_with (first|((with_reducible refine gate_callee (f:=59) rfl ?_);refine goesL_ (some 33) rfl rfl Try.func59 zqk rfl #[.slice A0 l0.length c0] rfl zq5 ?_;(with_reducible refine(spec_OrderOk.calls b4 _ _ l0 c4 _ ?side1 ?side2 c7.out).mono ?_);(case side1=> exact zq30);(case side2=>exact a4.out);rintro e w' ⟨rfl,⟨nd,rfl⟩⟩;refine⟨_,rfl,?_⟩))
      go_ret
      exact⟨zq6,zq8⟩
end
section
attribute [local go_sem] max2_int min2_int max_two min_two max_three min_three max_four min_four
mutual
def spec_LeastOf.l0 : Nat → List (List Int) → Int → Option (Int × Bool)
 | 0, _, _ => none
 | k + 1, x0, x4 => if x4 < (x0.length : Int) then ((spec_OrderOk.f k x0).bind fun t492 => (spec_LeastOf.j1 k x0 x4 t492)) else (spec_LeastOf.j1 k x0 x4 false)
def spec_LeastOf.j1 : Nat → List (List Int) → Int → Bool → Option (Int × Bool)
 | 0, _, _, _ => none
 | k + 1, x0, x4, x14 => if x14 = true then (spec_LeastOf.l1 k x0 x4 true 0) else (some ((-1), false))
def spec_LeastOf.l1 : Nat → List (List Int) → Int → Bool → Int → Option (Int × Bool)
 | 0, _, _, _, _ => none
 | k + 1, x0, x4, x5, x6 => if x6 < (x0.length : Int) then (if x5 = true then (if 0 ≤ x4 then (if x4 < (x0.length : Int) then (if 0 ≤ x6 then (if x6 < ((rd_L2 x0 x4).length : Int) then (spec_LeastOf.l1 k x0 x4 ((rd (rd_L2 x0 x4) x6) == 1) (wrap64 (x6 + 1))) else (none)) else (none)) else (none)) else (none)) else (spec_LeastOf.l1 k x0 x4 false (wrap64 (x6 + 1)))) else (if x5 = true then (some (x4, true)) else (spec_LeastOf.l0 k x0 (wrap64 (x4 + 1))))
end
def spec_LeastOf.f (k : Nat) (l0 : List (List Int)) : Option (Int × Bool) := spec_LeastOf.l0 k l0 0
set_option maxHeartbeats 8000000 in
set_option maxRecDepth 100000 in
theorem spec_LeastOf.calls (k : Nat) (A0 : Option Addr) (c0 : Nat) (l0 : List (List Int)) (r1 : Int) (r2 : Bool) (w : World) (hr0 : Kd.C (Kd.slice 3 (Kd.int .i64)) w A0 l0.length l0) (hc0 : l0.length ≤ c0) (h : spec_LeastOf.f k l0 = some (r1, r2)) :
  Calls Try.prog 55 #[.slice A0 l0.length c0] w fun e w' => e = .returned (.tuple #[.int .i64 r1, .bool r2]) ∧ Drawn0 w w' := by
 have c4:=zqm hr0;have d7:=zqm hc0;clear hr0 hc0;have H:(spec_LeastOf.l0 k l0 0)=some (r1,r2):=h;clear h;have H':=zqm H;clear H
 go_enter Try.func55,Try.ntmps55
 go_wp2
 go_loopg [4] k (fun kq v4 w'=> ∃(a0:Int),v4= .int .i64 a0∧Aside0 (spec_LeastOf.l0 kq l0 a0=some (r1,r2))∧Aside0 (kq≤k)∧Drawn0 w w')
 case atStart=>exact⟨(0),zq6,H',⟨Nat.le_refl _⟩,zq8⟩
 case round=>
  clear H';obtain⟨a0,rfl,HA,a2,⟨m1,rfl⟩⟩:=hrel
  cases gk with
  |zero=>exact absurd HA.out (by simp [spec_LeastOf.l0])
  |succ k1=>
   have H:=HA.out;clear HA;simp only [spec_LeastOf.l0] at H;have b9:=zqm H;clear H
   go_upto_region 2 with (fail)
   go_cut [14] (fun d9 wc=> ∃(kq:Nat) (a3:Bool),d9= .bool a3∧Aside0 (spec_LeastOf.j1 kq l0 a0 a3=some (r1,r2))∧Aside0 (kq≤k1)∧Drawn0 w wc)
   case first=>
    have H:=b9.out;clear b9
    by_cases c3:a0<(l0.length:Int)
    ·rw [if_pos c3] at H;have a4:decide (a0<(l0.length:Int))=true:=decide_eq_true c3;clear c3;(first|rw [a4]|(simp only [i64_w,i32_w];rw [a4])|skip);replace H:=Option.bind_eq_some_iff.mp H;obtain⟨b4,c2,H⟩:=H;replace H:(spec_LeastOf.j1 k1 l0 a0 b4)=some (r1,r2):=H;have A4:=zqm c2;clear c2;have H':=zqm H;clear H
     go_wp2_with (first|(go_at_call 59;(with_reducible refine(spec_OrderOk.calls k1 _ _ l0 b4 _ ?side1 ?side2 A4.out).mono ?_);(case side1=>repeat(first|exact c4.out|(with_reducible refine Kd.C_alloc ?_ _)|(with_reducible refine Kd.C_drewN ?_ _)|(with_reducible refine Kd.C_drew ?_)));(case side2=>exact d7.out);rintro e w' ⟨rfl,⟨nd,rfl⟩⟩))
     go_meet
     case rel=>exact⟨_,(b4),zq6,H',⟨by have:=a2.out;first|omega|exact Nat.le_refl _⟩,zq8⟩
    ·rw [if_neg c3] at H;have a4:decide (a0<(l0.length:Int))=false:=decide_eq_false c3;clear c3;(first|rw [a4]|(simp only [i64_w,i32_w];rw [a4])|skip);have H':=zqm H;clear H
     go_wp2
     go_meet
     case rel=>exact⟨_,(false),zq6,H',⟨by have:=a2.out;first|omega|exact Nat.le_refl _⟩,zq8⟩
   case rest=>
    clear b9;obtain⟨kq,a3,rfl,HA,a6,⟨mc1,rfl⟩⟩:=hcut
    cases kq with
    |zero=>exact absurd HA.out (by simp [spec_LeastOf.j1])
    |succ c1=>
     have H:=HA.out;clear HA;simp only [spec_LeastOf.j1] at H
     by_cases c5:a3=true
     ·subst c5;(have H1:(spec_LeastOf.l1 c1 l0 a0 true 0)=some (r1,r2):=by rw [if_pos rfl] at H;exact H);clear H;have H:=H1;clear H1;have H':=zqm H;clear H
      go_wp2
      go_loopg [5,6] c1 (fun kq v5 v6 w'=> ∃(a5:Bool) (a1:Int),v5= .bool a5∧v6= .int .i64 a1∧Aside0 (spec_LeastOf.l1 kq l0 a0 a5 a1=some (r1,r2))∧Aside0 (kq≤c1)∧Drawn0 w w')
      case atStart=>exact⟨(true),(0),zq6,zq6,H',⟨Nat.le_refl _⟩,zq8⟩
      case round=>
       clear H';obtain⟨a5,a1,rfl,rfl,HA,a7,⟨m3,rfl⟩⟩:=hrel
       cases gk with
       |zero=>exact absurd HA.out (by simp [spec_LeastOf.l1])
       |succ k3=>
        have H:=HA.out;clear HA;simp only [spec_LeastOf.l1] at H
        by_cases c6:a1<(l0.length:Int)
        ·rw [if_pos c6] at H;have d0:decide (a1<(l0.length:Int))=true:=decide_eq_true c6;clear c6
         by_cases c7:a5=true
         ·subst c7;(have H1:(if 0≤a0 then(if a0<(l0.length:Int) then(if 0≤a1 then(if a1<((rd_L2 l0 a0).length:Int) then(spec_LeastOf.l1 k3 l0 a0 ((rd (rd_L2 l0 a0) a1)==1) (wrap64 (a1+1))) else(none)) else(none)) else(none)) else(none))=some (r1,r2):=by rw [if_pos rfl] at H;exact H);clear H;have H:=H1;clear H1
          by_cases c8:0≤a0
          ·rw [if_pos c8] at H;have e4:decide (0≤a0)=true:=decide_eq_true c8;clear c8
           by_cases c9:a0<(l0.length:Int)
           ·rw [if_pos c9] at H;have e5:decide (a0<(l0.length:Int))=true:=decide_eq_true c9;clear c9
            by_cases b5:0≤a1
            ·rw [if_pos b5] at H;have e2:decide (0≤a1)=true:=decide_eq_true b5;clear b5
             by_cases b6:a1<((rd_L2 l0 a0).length:Int)
             ·rw [if_pos b6] at H;have e3:decide (a1<((rd_L2 l0 a0).length:Int))=true:=decide_eq_true b6;clear b6;have H':=zqm H;clear H;have b0:0≤(a0:Int):=zqo;have b2:a0<(l0.length:Int):=zqo;obtain⟨e0,d6,d8,d1,d4,a9,a8⟩:=at_L2 c4.out a0 b0 b2
              cases d1
              have b8:=zqm a8;have d3:=zqm a9;clear a8 a9;replace b0:=eq_true b0;replace b2:=eq_true b2;have b1:0≤(a1:Int):=zqo;have b3:a1<((rd_L2 l0 a0).length:Int):=zqo;obtain⟨e1,d2,d5⟩:=Kd.at_int b8.out a1 b1 b3
              cases d2
              replace b1:=eq_true b1;replace b3:=eq_true b3
              go_wp2
              go_roundg k3
              (case measure=> exact zq120);case rel=>exact⟨(((rd (rd_L2 l0 a0) a1)==1)),(wrap64 (a1+1)),zq6,zq6,H',⟨zq120⟩,zq8⟩
             ·rw [if_neg b6] at H;exact absurd H (by simp)
            ·rw [if_neg b5] at H;exact absurd H (by simp)
           ·rw [if_neg c9] at H;exact absurd H (by simp)
          ·rw [if_neg c8] at H;exact absurd H (by simp)
         ·replace c7:=Bool.eq_false_iff.mpr c7;subst c7;(have H1:(spec_LeastOf.l1 k3 l0 a0 false (wrap64 (a1+1)))=some (r1,r2):=by rw [if_neg (show¬(false=true) by decide)] at H;exact H);clear H;have H:=H1;clear H1;have H':=zqm H;clear H
          go_wp2
          go_roundg k3
          (case measure=> exact zq120);case rel=>exact⟨(false),(wrap64 (a1+1)),zq6,zq6,H',⟨zq120⟩,zq8⟩
        ·rw [if_neg c6] at H;have d0:decide (a1<(l0.length:Int))=false:=decide_eq_false c6;clear c6
         by_cases b7:a5=true
         ·subst b7;(have H1:(some (a0,true))=some (r1,r2):=by rw [if_pos rfl] at H;exact H);clear H;have H:=H1;clear H1;simp only [Option.some.injEq,Prod.mk.injEq] at H;obtain⟨rfl,rfl⟩:=H
          go_wp2
          go_ret2
          exact⟨zq6,zq8⟩
         ·replace b7:=Bool.eq_false_iff.mpr b7;subst b7;(have H1:(spec_LeastOf.l0 k3 l0 (wrap64 (a0+1)))=some (r1,r2):=by rw [if_neg (show¬(false=true) by decide)] at H;exact H);clear H;have H:=H1;clear H1;have H':=zqm H;clear H
          go_wp2
          go_roundg k3
          (case measure=> exact zq120);case rel=>exact⟨(wrap64 (a0+1)),zq6,H',⟨zq120⟩,zq8⟩
     ·replace c5:=Bool.eq_false_iff.mpr c5;subst c5;(have H1:(some ((-1),false))=some (r1,r2):=by rw [if_neg (show¬(false=true) by decide)] at H;exact H);clear H;have H:=H1;clear H1;simp only [Option.some.injEq,Prod.mk.injEq] at H;obtain⟨rfl,rfl⟩:=H
      go_wp2
      go_ret2
      exact⟨zq6,zq8⟩
end
section
attribute [local go_sem] max2_int min2_int max_two min_two max_three min_three max_four min_four
mutual
def spec_LogicOk.j0 : Nat → Int → Bool → List (List Int) → List Int → Option (Bool)
 | 0, _, _, _, _ => none
 | k + 1, x3, x22, x496000, x496001 => if x22 = true then (some false) else (spec_LogicOk.l0 k x3 0 x496000 x496001)
def spec_LogicOk.l0 : Nat → Int → Int → List (List Int) → List Int → Option (Bool)
 | 0, _, _, _, _ => none
 | k + 1, x3, x4, x496000, x496001 => if x4 < x3 then (if 0 ≤ x4 then (if x4 < (x496001.length : Int) then ((spec_l1In.f (rd x496001 x4) 0 (wrap64 (x3 - 1))).bind fun t498 => (if t498 = true then (spec_LogicOk.l0 k x3 (wrap64 (x4 + 1)) x496000 x496001) else (some false))) else (none)) else (none)) else ((spec_LeastOf.f k x496000).bind fun bt499 => (spec_LogicOk.l1 k x3 bt499.1 0 x496000 x496001))
def spec_LogicOk.l1 : Nat → Int → Int → Int → List (List Int) → List Int → Option (Bool)
 | 0, _, _, _, _, _ => none
 | k + 1, x3, x5, x7, x496000, x496001 => if x7 < x3 then (if 0 ≤ x7 then (if x7 < (x496001.length : Int) then (if 0 ≤ (rd x496001 x7) then (if (rd x496001 x7) < (x496001.length : Int) then (if (rd x496001 (rd x496001 x7)) = x7 then ((spec_l1Meet.f k x496000 x7 (rd x496001 x7)).bind fun t504 => (spec_LogicOk.j3 k x3 x5 x7 (t504 != x5) x496000 x496001)) else (spec_LogicOk.j3 k x3 x5 x7 true x496000 x496001)) else (none)) else (none)) else (none)) else (none)) else (some true)
def spec_LogicOk.j3 : Nat → Int → Int → Int → Bool → List (List Int) → List Int → Option (Bool)
 | 0, _, _, _, _, _, _ => none
 | k + 1, x3, x5, x7, x71, x496000, x496001 => if x71 = true then (some false) else (spec_LogicOk.l2 k x3 x5 x7 0 x496000 x496001)
def spec_LogicOk.l2 : Nat → Int → Int → Int → Int → List (List Int) → List Int → Option (Bool)
 | 0, _, _, _, _, _, _ => none
 | k + 1, x3, x5, x7, x8, x496000, x496001 => if x8 < x3 then (if 0 ≤ x7 then (if x7 < (x496000.length : Int) then (if 0 ≤ x8 then (if x8 < ((rd_L2 x496000 x7).length : Int) then (if (rd (rd_L2 x496000 x7) x8) = 1 then (if x8 < (x496001.length : Int) then (if 0 ≤ (rd x496001 x8) then (if (rd x496001 x8) < (x496000.length : Int) then (if x7 < (x496001.length : Int) then (if 0 ≤ (rd x496001 x7) then (if (rd x496001 x7) < ((rd_L2 x496000 (rd x496001 x8)).length : Int) then (if (rd (rd_L2 x496000 (rd x496001 x8)) (rd x496001 x7)) = 0 then (some false) else (spec_LogicOk.l2 k x3 x5 x7 (wrap64 (x8 + 1)) x496000 x496001)) else (none)) else (none)) else (none)) else (none)) else (none)) else (none)) else (spec_LogicOk.l2 k x3 x5 x7 (wrap64 (x8 + 1)) x496000 x496001)) else (none)) else (none)) else (none)) else (none)) else (spec_LogicOk.l1 k x3 x5 (wrap64 (x7 + 1)) x496000 x496001)
end
def spec_LogicOk.f (k : Nat) (l0_0 : List (List Int)) (l0_1 : List Int) : Option (Bool) := (spec_LatticeOk.f k l0_0).bind fun t496 => (if t496 = true then (spec_LogicOk.j0 k (l0_0.length : Int) ((l0_1.length : Int) != (l0_0.length : Int)) l0_0 l0_1) else (spec_LogicOk.j0 k (l0_0.length : Int) true l0_0 l0_1))
set_option maxHeartbeats 8000000 in
set_option maxRecDepth 100000 in
theorem spec_LogicOk.calls (k : Nat) (A0_0 : Option Addr) (c0_0 : Nat) (l0_0 : List (List Int)) (A0_1 : Option Addr) (c0_1 : Nat) (l0_1 : List Int) (r : Bool) (w : World) (hr0_0 : Kd.C (Kd.slice 3 (Kd.int .i64)) w A0_0 l0_0.length l0_0) (hc0_0 : l0_0.length ≤ c0_0) (hr0_1 : Kd.C (Kd.int .i64) w A0_1 l0_1.length l0_1) (hc0_1 : l0_1.length ≤ c0_1) (h : spec_LogicOk.f k l0_0 l0_1 = some r) :
  Calls Try.prog 21 #[.agg #[.slice A0_0 l0_0.length c0_0, .slice A0_1 l0_1.length c0_1]] w fun e w' => e = .returned (.bool r) ∧ Below w.heap.size w w' := by
 have hu26:=Try.underlying26;have a6:=zqm hr0_0;have a9:=zqm hc0_0;clear hr0_0 hc0_0;have b2:=zqm hr0_1;have s6:=zqm hc0_1;clear hr0_1 hc0_1;have HB:=zqm (Below.refl w.heap.size w);have H:((spec_LatticeOk.f k l0_0).bind fun i7=>(if i7=true then(spec_LogicOk.j0 k (l0_0.length:Int) ((l0_1.length:Int) !=(l0_0.length:Int)) l0_0 l0_1) else(spec_LogicOk.j0 k (l0_0.length:Int) true l0_0 l0_1)))=some r:=h;clear h;have m5:=zqm H;clear H
 go_enter Try.func21,Try.ntmps21
 go_upto_region 2 with (first|((with_reducible refine gate_dst (N:=1) rfl ?_);(try(refine gate_guard (by rfl) ?_;dsimp only));refine box_event ?hg (N:=1) ?hd (cs:= #[.slice A0_0 l0_0.length c0_0,.slice A0_1 l0_1.length c0_1]) (t:=26) ?hr ?_;(case hd=>rfl);(case hg=>rfl);(case hr=> exact zq15);intro a3 hg w3 hbox hb;have f1:=zqm (below_step zq2 hb);have a1:=zqm (hbox);have i9:=zqm ((by rw [hg];exact(below_size zq2):w.heap.size≤a3));have a5:=zqm ((by rw [hg];exact(below_size zq2):w.heap.size≤a3));clear HB;have HB:=f1;clear f1 hb hbox hg;have h3:w3.cell? ⟨a3,0,none⟩=some (.slice A0_0 l0_0.length c0_0):=(blk_cell a1.out 0).trans rfl;have h4:w3.cell? ⟨a3,1,none⟩=some (.slice A0_1 l0_1.length c0_1):=(blk_cell a1.out 1).trans rfl;have h5:=blk_frozen a1.out 0;have h6:=blk_frozen a1.out 1))
 repeat(go_quiet (first|((with_reducible refine gate_dst (N:=1) rfl ?_);(try(refine gate_guard (by rfl) ?_;dsimp only));refine box_event ?hg (N:=1) ?hd (cs:= #[.slice A0_0 l0_0.length c0_0,.slice A0_1 l0_1.length c0_1]) (t:=26) ?hr ?_;(case hd=>rfl);(case hg=>rfl);(case hr=> exact zq15);intro a3 hg w3 hbox hb;have f1:=zqm (below_step zq2 hb);have a1:=zqm (hbox);have i9:=zqm ((by rw [hg];exact(below_size zq2):w.heap.size≤a3));have a5:=zqm ((by rw [hg];exact(below_size zq2):w.heap.size≤a3));clear HB;have HB:=f1;clear f1 hb hbox hg;have h3:w3.cell? ⟨a3,0,none⟩=some (.slice A0_0 l0_0.length c0_0):=(blk_cell a1.out 0).trans rfl;have h4:w3.cell? ⟨a3,1,none⟩=some (.slice A0_1 l0_1.length c0_1):=(blk_cell a1.out 1).trans rfl;have h5:=blk_frozen a1.out 0;have h6:=blk_frozen a1.out 1));go_upto_region 2 with (first|((with_reducible refine gate_dst (N:=1) rfl ?_);(try(refine gate_guard (by rfl) ?_;dsimp only));refine box_event ?hg (N:=1) ?hd (cs:= #[.slice A0_0 l0_0.length c0_0,.slice A0_1 l0_1.length c0_1]) (t:=26) ?hr ?_;(case hd=>rfl);(case hg=>rfl);(case hr=> exact zq15);intro a3 hg w3 hbox hb;have f1:=zqm (below_step zq2 hb);have a1:=zqm (hbox);have i9:=zqm ((by rw [hg];exact(below_size zq2):w.heap.size≤a3));have a5:=zqm ((by rw [hg];exact(below_size zq2):w.heap.size≤a3));clear HB;have HB:=f1;clear f1 hb hbox hg;have h3:w3.cell? ⟨a3,0,none⟩=some (.slice A0_0 l0_0.length c0_0):=(blk_cell a1.out 0).trans rfl;have h4:w3.cell? ⟨a3,1,none⟩=some (.slice A0_1 l0_1.length c0_1):=(blk_cell a1.out 1).trans rfl;have h5:=blk_frozen a1.out 0;have h6:=blk_frozen a1.out 1)))
 (try simp only [Act.put,List.setIfInBounds_toArray,List.set_cons_zero,List.set_cons_succ])
 go_cut [22] (fun s4 wc=> ∃(kq:Nat) (f4:Bool),s4= .bool f4∧Aside0 (spec_LogicOk.j0 kq (l0_0.length:Int) f4 l0_0 l0_1=some r)∧Aside0 (kq≤k)∧Aside0 (wc.heap[a3]? =some (.cells #[(.slice A0_0 l0_0.length c0_0),(.slice A0_1 l0_1.length c0_1)] 26 (0,0)))∧Aside0 (Below w.heap.size w wc))
 case first=>
  have H:=m5.out;clear m5;replace H:=Option.bind_eq_some_iff.mp H;obtain⟨i7,o0,H⟩:=H;(try dsimp only at H);have A5:=zqm o0;clear o0
  by_cases c6:i7=true
  ·subst c6;rw [if_pos rfl] at H;have H':=zqm H;clear H;have r6:w3.cell? ⟨a3,0,none⟩=some (.slice A0_0 l0_0.length c0_0):=(blk_cell a1.out 0).trans rfl;have r7:w3.cell? ⟨a3,1,none⟩=some (.slice A0_1 l0_1.length c0_1):=(blk_cell a1.out 1).trans rfl;have s0:=blk_frozen a1.out 0;have s1:=blk_frozen a1.out 1
   go_wp2_with (first|(go_at_call 53;(with_reducible refine(spec_LatticeOk.calls k _ _ l0_0 true _ ?side1 ?side2 A5.out).mono ?_);(case side1=> exact zq21);(case side2=>exact a9.out);rintro e w' ⟨rfl,⟨nd,rfl⟩⟩;(try first|exact⟨rfl,_,World.drewN_drewN _ _ _⟩|exact⟨rfl,_,Eq.trans (World.drewN_drewN _ _ _) (congrArg (World.drewN _) (Nat.add_assoc _ _ _))⟩)))
   repeat(go_quiet (first|(go_at_call 53;(with_reducible refine(spec_LatticeOk.calls k _ _ l0_0 true _ ?side1 ?side2 A5.out).mono ?_);(case side1=> exact zq21);(case side2=>exact a9.out);rintro e w' ⟨rfl,⟨nd,rfl⟩⟩;(try first|exact⟨rfl,_,World.drewN_drewN _ _ _⟩|exact⟨rfl,_,Eq.trans (World.drewN_drewN _ _ _) (congrArg (World.drewN _) (Nat.add_assoc _ _ _))⟩)));try go_wp2_with (first|(go_at_call 53;(with_reducible refine(spec_LatticeOk.calls k _ _ l0_0 true _ ?side1 ?side2 A5.out).mono ?_);(case side1=> exact zq21);(case side2=>exact a9.out);rintro e w' ⟨rfl,⟨nd,rfl⟩⟩;(try first|exact⟨rfl,_,World.drewN_drewN _ _ _⟩|exact⟨rfl,_,Eq.trans (World.drewN_drewN _ _ _) (congrArg (World.drewN _) (Nat.add_assoc _ _ _))⟩))))
   go_meet
   case rel=>exact⟨_,(((l0_1.length:Int) !=(l0_0.length:Int))),zq6,H',⟨zq123⟩,⟨zqe a1.out⟩,⟨zq12⟩⟩
  ·replace c6:=Bool.eq_false_iff.mpr c6;subst c6;rw [if_neg (show¬(false=true) by decide)] at H;have H':=zqm H;clear H;have r8:w3.cell? ⟨a3,0,none⟩=some (.slice A0_0 l0_0.length c0_0):=(blk_cell a1.out 0).trans rfl;have r9:w3.cell? ⟨a3,1,none⟩=some (.slice A0_1 l0_1.length c0_1):=(blk_cell a1.out 1).trans rfl;have s2:=blk_frozen a1.out 0;have s3:=blk_frozen a1.out 1
   go_wp2_with (first|(go_at_call 53;(with_reducible refine(spec_LatticeOk.calls k _ _ l0_0 false _ ?side1 ?side2 A5.out).mono ?_);(case side1=> exact zq21);(case side2=>exact a9.out);rintro e w' ⟨rfl,⟨nd,rfl⟩⟩;(try first|exact⟨rfl,_,World.drewN_drewN _ _ _⟩|exact⟨rfl,_,Eq.trans (World.drewN_drewN _ _ _) (congrArg (World.drewN _) (Nat.add_assoc _ _ _))⟩)))
   repeat(go_quiet (first|(go_at_call 53;(with_reducible refine(spec_LatticeOk.calls k _ _ l0_0 false _ ?side1 ?side2 A5.out).mono ?_);(case side1=> exact zq21);(case side2=>exact a9.out);rintro e w' ⟨rfl,⟨nd,rfl⟩⟩;(try first|exact⟨rfl,_,World.drewN_drewN _ _ _⟩|exact⟨rfl,_,Eq.trans (World.drewN_drewN _ _ _) (congrArg (World.drewN _) (Nat.add_assoc _ _ _))⟩)));try go_wp2_with (first|(go_at_call 53;(with_reducible refine(spec_LatticeOk.calls k _ _ l0_0 false _ ?side1 ?side2 A5.out).mono ?_);(case side1=> exact zq21);(case side2=>exact a9.out);rintro e w' ⟨rfl,⟨nd,rfl⟩⟩;(try first|exact⟨rfl,_,World.drewN_drewN _ _ _⟩|exact⟨rfl,_,Eq.trans (World.drewN_drewN _ _ _) (congrArg (World.drewN _) (Nat.add_assoc _ _ _))⟩))))
   go_meet
   case rel=>exact⟨_,(true),zq6,H',⟨zq123⟩,⟨zqe a1.out⟩,⟨zq12⟩⟩
 case rest=>
  clear m5;obtain⟨kq,f4,rfl,HA,c8,a1,HB⟩:=hcut
  cases kq with
  |zero=>exact absurd HA.out (by simp [spec_LogicOk.j0])
  |succ o1=>
   have H:=HA.out;clear HA;simp only [spec_LogicOk.j0] at H
   by_cases c9:f4=true
   ·subst c9;rw [if_pos rfl] at H;obtain rfl:=Option.some.inj H
    go_wp2
    repeat(go_quiet (fail);try go_wp2)
    go_ret
    exact⟨zq17,zq12⟩
   ·replace c9:=Bool.eq_false_iff.mpr c9;subst c9;rw [if_neg (show¬(false=true) by decide)] at H;have H':=zqm H;clear H
    go_wp2
    repeat(go_quiet (fail);try go_wp2)
    go_loopg [4] o1 (fun kq v4 w'=> ∃(a4:Int),v4= .int .i64 a4∧Aside0 (spec_LogicOk.l0 kq (l0_0.length:Int) a4 l0_0 l0_1=some r)∧Aside0 (kq≤o1)∧Aside0 (w'.heap[a3]? =some (.cells #[(.slice A0_0 l0_0.length c0_0),(.slice A0_1 l0_1.length c0_1)] 26 (0,0)))∧Aside0 (Below w.heap.size w w'))
    case atStart=>exact⟨(0),zq6,H',⟨Nat.le_refl _⟩,⟨zqe a1.out⟩,⟨zq12⟩⟩
    case round=>
     clear H';obtain⟨a4,rfl,HA,d0,a1,HB⟩:=hrel
     cases gk with
     |zero=>exact absurd HA.out (by simp [spec_LogicOk.l0])
     |succ k2=>
      have H:=HA.out;clear HA;simp only [spec_LogicOk.l0] at H
      by_cases g3:a4<(l0_0.length:Int)
      ·rw [if_pos g3] at H;have n1:decide (a4<(l0_0.length:Int))=true:=decide_eq_true g3;clear g3
       by_cases j2:0≤a4
       ·rw [if_pos j2] at H;have s7:decide (0≤a4)=true:=decide_eq_true j2;clear j2
        by_cases j4:a4<(l0_1.length:Int)
        ·rw [if_pos j4] at H;have s8:decide (a4<(l0_1.length:Int))=true:=decide_eq_true j4;clear j4;replace H:=Option.bind_eq_some_iff.mp H;obtain⟨o3,l9,H⟩:=H;(try dsimp only at H);have g0:=zqm l9;clear l9
         by_cases j5:o3=true
         ·subst j5;rw [if_pos rfl] at H;have H':=zqm H;clear H;have o4:wr.cell? ⟨a3,0,none⟩=some (.slice A0_0 l0_0.length c0_0):=(blk_cell a1.out 0).trans rfl;have o5:wr.cell? ⟨a3,1,none⟩=some (.slice A0_1 l0_1.length c0_1):=(blk_cell a1.out 1).trans rfl;have q0:=blk_frozen a1.out 0;have q1:=blk_frozen a1.out 1;have d1:0≤(a4:Int):=zqo;have d8:a4<(l0_1.length:Int):=zqo;obtain⟨m8,h8,b3⟩:=Kd.at_int b2.out a4 d1 d8
          cases h8
          replace b3:=(HB.out.cell (World.block_lt_of_cell? w _ b3)).trans b3;replace d1:=eq_true d1;replace d8:=eq_true d8
          go_wp2_with (first|(go_at_call 54;(with_reducible refine(spec_l1In.calls (rd l0_1 a4) 0 (wrap64 ((l0_0.length:Int) - 1)) true _ g0.out).mono ?_);rintro e w' ⟨rfl,⟨nd,rfl⟩⟩;(try first|exact⟨rfl,_,World.drewN_drewN _ _ _⟩|exact⟨rfl,_,Eq.trans (World.drewN_drewN _ _ _) (congrArg (World.drewN _) (Nat.add_assoc _ _ _))⟩)))
          repeat(go_quiet (first|(go_at_call 54;(with_reducible refine(spec_l1In.calls (rd l0_1 a4) 0 (wrap64 ((l0_0.length:Int) - 1)) true _ g0.out).mono ?_);rintro e w' ⟨rfl,⟨nd,rfl⟩⟩;(try first|exact⟨rfl,_,World.drewN_drewN _ _ _⟩|exact⟨rfl,_,Eq.trans (World.drewN_drewN _ _ _) (congrArg (World.drewN _) (Nat.add_assoc _ _ _))⟩)));try go_wp2_with (first|(go_at_call 54;(with_reducible refine(spec_l1In.calls (rd l0_1 a4) 0 (wrap64 ((l0_0.length:Int) - 1)) true _ g0.out).mono ?_);rintro e w' ⟨rfl,⟨nd,rfl⟩⟩;(try first|exact⟨rfl,_,World.drewN_drewN _ _ _⟩|exact⟨rfl,_,Eq.trans (World.drewN_drewN _ _ _) (congrArg (World.drewN _) (Nat.add_assoc _ _ _))⟩))))
          go_roundg k2
          (case measure=>have:=c8.out;have:=d0.out;omega);case rel=>exact⟨(wrap64 (a4+1)),zq6,H',⟨by have:=c8.out;have:=d0.out;omega⟩,⟨zqe a1.out⟩,⟨zq12⟩⟩
         ·replace j5:=Bool.eq_false_iff.mpr j5;subst j5;rw [if_neg (show¬(false=true) by decide)] at H;obtain rfl:=Option.some.inj H;have o6:wr.cell? ⟨a3,0,none⟩=some (.slice A0_0 l0_0.length c0_0):=(blk_cell a1.out 0).trans rfl;have o7:wr.cell? ⟨a3,1,none⟩=some (.slice A0_1 l0_1.length c0_1):=(blk_cell a1.out 1).trans rfl;have q2:=blk_frozen a1.out 0;have q3:=blk_frozen a1.out 1;have d1:0≤(a4:Int):=zqo;have d8:a4<(l0_1.length:Int):=zqo;obtain⟨m8,h8,b3⟩:=Kd.at_int b2.out a4 d1 d8
          cases h8
          replace b3:=(HB.out.cell (World.block_lt_of_cell? w _ b3)).trans b3;replace d1:=eq_true d1;replace d8:=eq_true d8
          go_wp2_with (first|(go_at_call 54;(with_reducible refine(spec_l1In.calls (rd l0_1 a4) 0 (wrap64 ((l0_0.length:Int) - 1)) false _ g0.out).mono ?_);rintro e w' ⟨rfl,⟨nd,rfl⟩⟩;(try first|exact⟨rfl,_,World.drewN_drewN _ _ _⟩|exact⟨rfl,_,Eq.trans (World.drewN_drewN _ _ _) (congrArg (World.drewN _) (Nat.add_assoc _ _ _))⟩)))
          repeat(go_quiet (first|(go_at_call 54;(with_reducible refine(spec_l1In.calls (rd l0_1 a4) 0 (wrap64 ((l0_0.length:Int) - 1)) false _ g0.out).mono ?_);rintro e w' ⟨rfl,⟨nd,rfl⟩⟩;(try first|exact⟨rfl,_,World.drewN_drewN _ _ _⟩|exact⟨rfl,_,Eq.trans (World.drewN_drewN _ _ _) (congrArg (World.drewN _) (Nat.add_assoc _ _ _))⟩)));try go_wp2_with (first|(go_at_call 54;(with_reducible refine(spec_l1In.calls (rd l0_1 a4) 0 (wrap64 ((l0_0.length:Int) - 1)) false _ g0.out).mono ?_);rintro e w' ⟨rfl,⟨nd,rfl⟩⟩;(try first|exact⟨rfl,_,World.drewN_drewN _ _ _⟩|exact⟨rfl,_,Eq.trans (World.drewN_drewN _ _ _) (congrArg (World.drewN _) (Nat.add_assoc _ _ _))⟩))))
          go_ret
          exact⟨zq17,zq12⟩
        ·rw [if_neg j4] at H;exact absurd H (by simp)
       ·rw [if_neg j2] at H;exact absurd H (by simp)
      ·rw [if_neg g3] at H;have n1:decide (a4<(l0_0.length:Int))=false:=decide_eq_false g3;clear g3;replace H:=Option.bind_eq_some_iff.mp H;obtain⟨⟨e5,i8⟩,m1,H⟩:=H;(try dsimp only at H);have m0:=zqm m1;clear m1;have H':=zqm H;clear H;have o8:wr.cell? ⟨a3,0,none⟩=some (.slice A0_0 l0_0.length c0_0):=(blk_cell a1.out 0).trans rfl;have o9:wr.cell? ⟨a3,1,none⟩=some (.slice A0_1 l0_1.length c0_1):=(blk_cell a1.out 1).trans rfl;have q4:=blk_frozen a1.out 0;have q5:=blk_frozen a1.out 1
       go_wp2_with (first|(go_at_call 55;(with_reducible refine(spec_LeastOf.calls k2 _ _ l0_0 e5 i8 _ ?side1 ?side2 m0.out).mono ?_);(case side1=> exact zq21);(case side2=>exact a9.out);rintro e w' ⟨rfl,⟨nd,rfl⟩⟩;(try first|exact⟨rfl,_,World.drewN_drewN _ _ _⟩|exact⟨rfl,_,Eq.trans (World.drewN_drewN _ _ _) (congrArg (World.drewN _) (Nat.add_assoc _ _ _))⟩)))
       repeat(go_quiet (first|(go_at_call 55;(with_reducible refine(spec_LeastOf.calls k2 _ _ l0_0 e5 i8 _ ?side1 ?side2 m0.out).mono ?_);(case side1=> exact zq21);(case side2=>exact a9.out);rintro e w' ⟨rfl,⟨nd,rfl⟩⟩;(try first|exact⟨rfl,_,World.drewN_drewN _ _ _⟩|exact⟨rfl,_,Eq.trans (World.drewN_drewN _ _ _) (congrArg (World.drewN _) (Nat.add_assoc _ _ _))⟩)));try go_wp2_with (first|(go_at_call 55;(with_reducible refine(spec_LeastOf.calls k2 _ _ l0_0 e5 i8 _ ?side1 ?side2 m0.out).mono ?_);(case side1=> exact zq21);(case side2=>exact a9.out);rintro e w' ⟨rfl,⟨nd,rfl⟩⟩;(try first|exact⟨rfl,_,World.drewN_drewN _ _ _⟩|exact⟨rfl,_,Eq.trans (World.drewN_drewN _ _ _) (congrArg (World.drewN _) (Nat.add_assoc _ _ _))⟩))))
       go_loopg [7] k2 (fun kq v7 w'=> ∃(a0:Int),v7= .int .i64 a0∧Aside0 (spec_LogicOk.l1 kq (l0_0.length:Int) e5 a0 l0_0 l0_1=some r)∧Aside0 (kq≤k2)∧Aside0 (w'.heap[a3]? =some (.cells #[(.slice A0_0 l0_0.length c0_0),(.slice A0_1 l0_1.length c0_1)] 26 (0,0)))∧Aside0 (Below w.heap.size w w'))
       case atStart=>exact⟨(0),zq6,H',⟨Nat.le_refl _⟩,⟨zqe a1.out⟩,⟨zq12⟩⟩
       case round=>
        clear H';obtain⟨a0,rfl,HA,f0,a1,HB⟩:=hrel
        cases gk with
        |zero=>exact absurd HA.out (by simp [spec_LogicOk.l1])
        |succ k3=>
         have H:=HA.out;clear HA;simp only [spec_LogicOk.l1] at H
         by_cases g4:a0<(l0_0.length:Int)
         ·rw [if_pos g4] at H;have n2:decide (a0<(l0_0.length:Int))=true:=decide_eq_true g4;clear g4;have h7:=zqm H;clear H
          go_upto_region 13 with (fail)
          repeat(go_quiet (fail);go_upto_region 13 with (fail))
          go_cut [71] (fun s5 wc=> ∃(kq:Nat) (e6:Bool),s5= .bool e6∧Aside0 (spec_LogicOk.j3 kq (l0_0.length:Int) e5 a0 e6 l0_0 l0_1=some r)∧Aside0 (kq≤k3)∧Aside0 (wc.heap[a3]? =some (.cells #[(.slice A0_0 l0_0.length c0_0),(.slice A0_1 l0_1.length c0_1)] 26 (0,0)))∧Aside0 (Below w.heap.size w wc))
          case first=>
           have H:=h7.out;clear h7
           by_cases j6:0≤a0
           ·rw [if_pos j6] at H;have j7:decide (0≤a0)=true:=decide_eq_true j6;clear j6;(first|rw [j7]|(simp only [i64_w,i32_w];rw [j7])|skip)
            by_cases j8:a0<(l0_1.length:Int)
            ·rw [if_pos j8] at H;have s9:decide (a0<(l0_1.length:Int))=true:=decide_eq_true j8;clear j8
             by_cases j9:0≤(rd l0_1 a0)
             ·rw [if_pos j9] at H;have t0:decide (0≤(rd l0_1 a0))=true:=decide_eq_true j9;clear j9
              by_cases k0:(rd l0_1 a0)<(l0_1.length:Int)
              ·rw [if_pos k0] at H;have t1:decide ((rd l0_1 a0)<(l0_1.length:Int))=true:=decide_eq_true k0;clear k0
               by_cases f5:(rd l0_1 (rd l0_1 a0))=a0
               ·rw [if_pos f5] at H;have n3:((rd l0_1 (rd l0_1 a0))==a0)=true:=beq_iff_eq.mpr f5;have n4:((rd l0_1 (rd l0_1 a0)) !=a0)=false:=bne_eq_false_iff_eq.mpr f5;clear f5;replace H:=Option.bind_eq_some_iff.mp H;obtain⟨h0,m3,H⟩:=H;(try dsimp only at H);have m2:=zqm m3;clear m3;have H':=zqm H;clear H;have p0:wr.cell? ⟨a3,0,none⟩=some (.slice A0_0 l0_0.length c0_0):=(blk_cell a1.out 0).trans rfl;have p1:wr.cell? ⟨a3,1,none⟩=some (.slice A0_1 l0_1.length c0_1):=(blk_cell a1.out 1).trans rfl;have q6:=blk_frozen a1.out 0;have q7:=blk_frozen a1.out 1;have d2:0≤(a0:Int):=zqo;have d9:a0<(l0_1.length:Int):=zqo;obtain⟨f2,h9,b4⟩:=Kd.at_int b2.out a0 d2 d9
                cases h9
                replace b4:=(HB.out.cell (World.block_lt_of_cell? w _ b4)).trans b4;replace d2:=eq_true d2;replace d9:=eq_true d9;have d3:0≤((rd l0_1 a0):Int):=zqo;have e0:(rd l0_1 a0)<(l0_1.length:Int):=zqo;obtain⟨g6,i0,b5⟩:=Kd.at_int b2.out (rd l0_1 a0) d3 e0;obtain rfl:f2=g6:=(by injection i0);replace b5:=(HB.out.cell (World.block_lt_of_cell? w _ b5)).trans b5;replace d3:=eq_true d3;replace e0:=eq_true e0;have i5:0≤(a0:Int):=zqo;have i6:a0<(l0_1.length:Int):=zqo;obtain⟨m9,o2,e9⟩:=Kd.at_int b2.out a0 i5 i6;obtain rfl:f2=m9:=(by injection o2);replace e9:=(HB.out.cell (World.block_lt_of_cell? w _ e9)).trans e9;replace i5:=eq_true i5;replace i6:=eq_true i6
                go_wp2_with (first|(go_at_call 25;(with_reducible refine(spec_l1Meet.calls k3 _ _ l0_0 a0 (rd l0_1 a0) h0 _ ?side1 ?side2 m2.out).mono ?_);(case side1=> exact zq21);(case side2=>exact a9.out);rintro e w' ⟨rfl,⟨nd,rfl⟩⟩;(try first|exact⟨rfl,_,World.drewN_drewN _ _ _⟩|exact⟨rfl,_,Eq.trans (World.drewN_drewN _ _ _) (congrArg (World.drewN _) (Nat.add_assoc _ _ _))⟩)))
                repeat(go_quiet (first|(go_at_call 25;(with_reducible refine(spec_l1Meet.calls k3 _ _ l0_0 a0 (rd l0_1 a0) h0 _ ?side1 ?side2 m2.out).mono ?_);(case side1=> exact zq21);(case side2=>exact a9.out);rintro e w' ⟨rfl,⟨nd,rfl⟩⟩;(try first|exact⟨rfl,_,World.drewN_drewN _ _ _⟩|exact⟨rfl,_,Eq.trans (World.drewN_drewN _ _ _) (congrArg (World.drewN _) (Nat.add_assoc _ _ _))⟩)));try go_wp2_with (first|(go_at_call 25;(with_reducible refine(spec_l1Meet.calls k3 _ _ l0_0 a0 (rd l0_1 a0) h0 _ ?side1 ?side2 m2.out).mono ?_);(case side1=> exact zq21);(case side2=>exact a9.out);rintro e w' ⟨rfl,⟨nd,rfl⟩⟩;(try first|exact⟨rfl,_,World.drewN_drewN _ _ _⟩|exact⟨rfl,_,Eq.trans (World.drewN_drewN _ _ _) (congrArg (World.drewN _) (Nat.add_assoc _ _ _))⟩))))
                go_meet
                case rel=>exact⟨_,((h0 !=e5)),zq6,H',⟨zq163⟩,⟨zqe a1.out⟩,⟨zq12⟩⟩
               ·rw [if_neg f5] at H;have n3:((rd l0_1 (rd l0_1 a0))==a0)=false:=beq_eq_false_iff_ne.mpr f5;have n4:((rd l0_1 (rd l0_1 a0)) !=a0)=true:=bne_iff_ne.mpr f5;have H':=zqm H;clear H;have p2:wr.cell? ⟨a3,0,none⟩=some (.slice A0_0 l0_0.length c0_0):=(blk_cell a1.out 0).trans rfl;have p3:wr.cell? ⟨a3,1,none⟩=some (.slice A0_1 l0_1.length c0_1):=(blk_cell a1.out 1).trans rfl;have q8:=blk_frozen a1.out 0;have q9:=blk_frozen a1.out 1;have d2:0≤(a0:Int):=zqo;have d9:a0<(l0_1.length:Int):=zqo;obtain⟨f2,h9,b4⟩:=Kd.at_int b2.out a0 d2 d9
                cases h9
                replace b4:=(HB.out.cell (World.block_lt_of_cell? w _ b4)).trans b4;replace d2:=eq_true d2;replace d9:=eq_true d9;have d3:0≤((rd l0_1 a0):Int):=zqo;have e0:(rd l0_1 a0)<(l0_1.length:Int):=zqo;obtain⟨g6,i0,b5⟩:=Kd.at_int b2.out (rd l0_1 a0) d3 e0;obtain rfl:f2=g6:=(by injection i0);replace b5:=(HB.out.cell (World.block_lt_of_cell? w _ b5)).trans b5;replace d3:=eq_true d3;replace e0:=eq_true e0
                go_wp2
                repeat(go_quiet (fail);try go_wp2)
                go_meet
                case rel=>exact⟨_,(true),zq6,H',⟨zq163⟩,⟨zqe a1.out⟩,⟨zq12⟩⟩
              ·rw [if_neg k0] at H;exact absurd H (by simp)
             ·rw [if_neg j9] at H;exact absurd H (by simp)
            ·rw [if_neg j8] at H;exact absurd H (by simp)
           ·rw [if_neg j6] at H;exact absurd H (by simp)
          case rest=>
           clear h7;obtain⟨kq,e6,rfl,HA,e7,a1,HB⟩:=hcut
           cases kq with
           |zero=>exact absurd HA.out (by simp [spec_LogicOk.j3])
           |succ m7=>
            have H:=HA.out;clear HA;simp only [spec_LogicOk.j3] at H
            by_cases k1:e6=true
            ·subst k1;rw [if_pos rfl] at H;obtain rfl:=Option.some.inj H
             go_wp2
             repeat(go_quiet (fail);try go_wp2)
             go_ret
             exact⟨zq17,zq12⟩
            ·replace k1:=Bool.eq_false_iff.mpr k1;subst k1;rw [if_neg (show¬(false=true) by decide)] at H;have H':=zqm H;clear H
             go_wp2
             repeat(go_quiet (fail);try go_wp2)
             go_loopg [8] m7 (fun kq v8 w'=> ∃(a2:Int),v8= .int .i64 a2∧Aside0 (spec_LogicOk.l2 kq (l0_0.length:Int) e5 a0 a2 l0_0 l0_1=some r)∧Aside0 (kq≤m7)∧Aside0 (w'.heap[a3]? =some (.cells #[(.slice A0_0 l0_0.length c0_0),(.slice A0_1 l0_1.length c0_1)] 26 (0,0)))∧Aside0 (Below w.heap.size w w'))
             case atStart=>exact⟨(0),zq6,H',⟨Nat.le_refl _⟩,⟨zqe a1.out⟩,⟨zq12⟩⟩
             case round=>
              clear H';obtain⟨a2,rfl,HA,g2,a1,HB⟩:=hrel
              cases gk with
              |zero=>exact absurd HA.out (by simp [spec_LogicOk.l2])
              |succ k5=>
               have H:=HA.out;clear HA;simp only [spec_LogicOk.l2] at H
               by_cases g5:a2<(l0_0.length:Int)
               ·rw [if_pos g5] at H;have n5:decide (a2<(l0_0.length:Int))=true:=decide_eq_true g5;clear g5
                by_cases k4:0≤a0
                ·rw [if_pos k4] at H;have t2:decide (0≤a0)=true:=decide_eq_true k4;clear k4
                 by_cases k6:a0<(l0_0.length:Int)
                 ·rw [if_pos k6] at H;have t3:decide (a0<(l0_0.length:Int))=true:=decide_eq_true k6;clear k6
                  by_cases k7:0≤a2
                  ·rw [if_pos k7] at H;have t4:decide (0≤a2)=true:=decide_eq_true k7;clear k7
                   by_cases k8:a2<((rd_L2 l0_0 a0).length:Int)
                   ·rw [if_pos k8] at H;have t5:decide (a2<((rd_L2 l0_0 a0).length:Int))=true:=decide_eq_true k8;clear k8
                    by_cases f6:(rd (rd_L2 l0_0 a0) a2)=1
                    ·rw [if_pos f6] at H;have n6:((rd (rd_L2 l0_0 a0) a2)==1)=true:=beq_iff_eq.mpr f6;have n7:((rd (rd_L2 l0_0 a0) a2) !=1)=false:=bne_eq_false_iff_eq.mpr f6;clear f6
                     by_cases k9:a2<(l0_1.length:Int)
                     ·rw [if_pos k9] at H;have t6:decide (a2<(l0_1.length:Int))=true:=decide_eq_true k9;clear k9
                      by_cases l3:0≤(rd l0_1 a2)
                      ·rw [if_pos l3] at H;have t7:decide (0≤(rd l0_1 a2))=true:=decide_eq_true l3;clear l3
                       by_cases l4:(rd l0_1 a2)<(l0_0.length:Int)
                       ·rw [if_pos l4] at H;have t8:decide ((rd l0_1 a2)<(l0_0.length:Int))=true:=decide_eq_true l4;clear l4
                        by_cases l5:a0<(l0_1.length:Int)
                        ·rw [if_pos l5] at H;have t9:decide (a0<(l0_1.length:Int))=true:=decide_eq_true l5;clear l5
                         by_cases l6:0≤(rd l0_1 a0)
                         ·rw [if_pos l6] at H;have u0:decide (0≤(rd l0_1 a0))=true:=decide_eq_true l6;clear l6
                          by_cases l7:(rd l0_1 a0)<((rd_L2 l0_0 (rd l0_1 a2)).length:Int)
                          ·rw [if_pos l7] at H;have u1:decide ((rd l0_1 a0)<((rd_L2 l0_0 (rd l0_1 a2)).length:Int))=true:=decide_eq_true l7;clear l7
                           by_cases f7:(rd (rd_L2 l0_0 (rd l0_1 a2)) (rd l0_1 a0))=0
                           ·rw [if_pos f7] at H;have n8:((rd (rd_L2 l0_0 (rd l0_1 a2)) (rd l0_1 a0))==0)=true:=beq_iff_eq.mpr f7;have n9:((rd (rd_L2 l0_0 (rd l0_1 a2)) (rd l0_1 a0)) !=0)=false:=bne_eq_false_iff_eq.mpr f7;clear f7;obtain rfl:=Option.some.inj H;have p4:wr.cell? ⟨a3,0,none⟩=some (.slice A0_0 l0_0.length c0_0):=(blk_cell a1.out 0).trans rfl;have p5:wr.cell? ⟨a3,1,none⟩=some (.slice A0_1 l0_1.length c0_1):=(blk_cell a1.out 1).trans rfl;have r0:=blk_frozen a1.out 0;have r1:=blk_frozen a1.out 1;have c0:0≤(a0:Int):=zqo;have c2:a0<(l0_0.length:Int):=zqo;obtain⟨f3,h1,h2,f8,a7,b1,b0⟩:=at_L2 a6.out a0 c0 c2
                            cases f8
                            replace a7:=(HB.out.cell (World.block_lt_of_cell? w _ a7)).trans a7;have c4:=zqm b0;have g1:=zqm b1;clear b0 b1;replace c0:=eq_true c0;replace c2:=eq_true c2;have c1:0≤(a2:Int):=zqo;have c3:a2<((rd_L2 l0_0 a0).length:Int):=zqo;obtain⟨j1,f9,a8⟩:=Kd.at_int c4.out a2 c1 c3
                            cases f9
                            replace a8:=(HB.out.cell (World.block_lt_of_cell? w _ a8)).trans a8;replace c1:=eq_true c1;replace c3:=eq_true c3;have d4:0≤(a2:Int):=zqo;have e1:a2<(l0_1.length:Int):=zqo;obtain⟨g7,i1,b6⟩:=Kd.at_int b2.out a2 d4 e1
                            cases i1
                            replace b6:=(HB.out.cell (World.block_lt_of_cell? w _ b6)).trans b6;replace d4:=eq_true d4;replace e1:=eq_true e1;have d5:0≤((rd l0_1 a2):Int):=zqo;have e2:(rd l0_1 a2)<(l0_0.length:Int):=zqo;obtain⟨g8,m4,m6,i2,b7,c7,c5⟩:=at_L2 a6.out (rd l0_1 a2) d5 e2;obtain rfl:f3=g8:=(by injection i2);replace b7:=(HB.out.cell (World.block_lt_of_cell? w _ b7)).trans b7;have e8:=zqm c5;have l8:=zqm c7;clear c5 c7;replace d5:=eq_true d5;replace e2:=eq_true e2;have d6:0≤(a0:Int):=zqo;have e3:a0<(l0_1.length:Int):=zqo;obtain⟨g9,i3,b8⟩:=Kd.at_int b2.out a0 d6 e3;obtain rfl:g7=g9:=(by injection i3);replace b8:=(HB.out.cell (World.block_lt_of_cell? w _ b8)).trans b8;replace d6:=eq_true d6;replace e3:=eq_true e3;have d7:0≤((rd l0_1 a0):Int):=zqo;have e4:(rd l0_1 a0)<((rd_L2 l0_0 (rd l0_1 a2)).length:Int):=zqo;obtain⟨n0,i4,b9⟩:=Kd.at_int e8.out (rd l0_1 a0) d7 e4
                            cases i4
                            replace b9:=(HB.out.cell (World.block_lt_of_cell? w _ b9)).trans b9;replace d7:=eq_true d7;replace e4:=eq_true e4
                            go_wp2
                            repeat(go_quiet (fail);try go_wp2)
                            go_ret
                            exact⟨zq17,zq12⟩
                           ·rw [if_neg f7] at H;have n8:((rd (rd_L2 l0_0 (rd l0_1 a2)) (rd l0_1 a0))==0)=false:=beq_eq_false_iff_ne.mpr f7;have n9:((rd (rd_L2 l0_0 (rd l0_1 a2)) (rd l0_1 a0)) !=0)=true:=bne_iff_ne.mpr f7;have H':=zqm H;clear H;have p6:wr.cell? ⟨a3,0,none⟩=some (.slice A0_0 l0_0.length c0_0):=(blk_cell a1.out 0).trans rfl;have p7:wr.cell? ⟨a3,1,none⟩=some (.slice A0_1 l0_1.length c0_1):=(blk_cell a1.out 1).trans rfl;have r2:=blk_frozen a1.out 0;have r3:=blk_frozen a1.out 1;have c0:0≤(a0:Int):=zqo;have c2:a0<(l0_0.length:Int):=zqo;obtain⟨f3,h1,h2,f8,a7,b1,b0⟩:=at_L2 a6.out a0 c0 c2
                            cases f8
                            replace a7:=(HB.out.cell (World.block_lt_of_cell? w _ a7)).trans a7;have c4:=zqm b0;have g1:=zqm b1;clear b0 b1;replace c0:=eq_true c0;replace c2:=eq_true c2;have c1:0≤(a2:Int):=zqo;have c3:a2<((rd_L2 l0_0 a0).length:Int):=zqo;obtain⟨j1,f9,a8⟩:=Kd.at_int c4.out a2 c1 c3
                            cases f9
                            replace a8:=(HB.out.cell (World.block_lt_of_cell? w _ a8)).trans a8;replace c1:=eq_true c1;replace c3:=eq_true c3;have d4:0≤(a2:Int):=zqo;have e1:a2<(l0_1.length:Int):=zqo;obtain⟨g7,i1,b6⟩:=Kd.at_int b2.out a2 d4 e1
                            cases i1
                            replace b6:=(HB.out.cell (World.block_lt_of_cell? w _ b6)).trans b6;replace d4:=eq_true d4;replace e1:=eq_true e1;have d5:0≤((rd l0_1 a2):Int):=zqo;have e2:(rd l0_1 a2)<(l0_0.length:Int):=zqo;obtain⟨g8,m4,m6,i2,b7,c7,c5⟩:=at_L2 a6.out (rd l0_1 a2) d5 e2;obtain rfl:f3=g8:=(by injection i2);replace b7:=(HB.out.cell (World.block_lt_of_cell? w _ b7)).trans b7;have e8:=zqm c5;have l8:=zqm c7;clear c5 c7;replace d5:=eq_true d5;replace e2:=eq_true e2;have d6:0≤(a0:Int):=zqo;have e3:a0<(l0_1.length:Int):=zqo;obtain⟨g9,i3,b8⟩:=Kd.at_int b2.out a0 d6 e3;obtain rfl:g7=g9:=(by injection i3);replace b8:=(HB.out.cell (World.block_lt_of_cell? w _ b8)).trans b8;replace d6:=eq_true d6;replace e3:=eq_true e3;have d7:0≤((rd l0_1 a0):Int):=zqo;have e4:(rd l0_1 a0)<((rd_L2 l0_0 (rd l0_1 a2)).length:Int):=zqo;obtain⟨n0,i4,b9⟩:=Kd.at_int e8.out (rd l0_1 a0) d7 e4
                            cases i4
                            replace b9:=(HB.out.cell (World.block_lt_of_cell? w _ b9)).trans b9;replace d7:=eq_true d7;replace e4:=eq_true e4
                            go_wp2
                            repeat(go_quiet (fail);try go_wp2)
                            go_roundg k5
                            (case measure=> exact zq84);case rel=>exact⟨(wrap64 (a2+1)),zq6,H',⟨zq84⟩,⟨zqe a1.out⟩,⟨zq12⟩⟩
                          ·rw [if_neg l7] at H;exact absurd H (by simp)
                         ·rw [if_neg l6] at H;exact absurd H (by simp)
                        ·rw [if_neg l5] at H;exact absurd H (by simp)
                       ·rw [if_neg l4] at H;exact absurd H (by simp)
                      ·rw [if_neg l3] at H;exact absurd H (by simp)
                     ·rw [if_neg k9] at H;exact absurd H (by simp)
                    ·rw [if_neg f6] at H;have n6:((rd (rd_L2 l0_0 a0) a2)==1)=false:=beq_eq_false_iff_ne.mpr f6;have n7:((rd (rd_L2 l0_0 a0) a2) !=1)=true:=bne_iff_ne.mpr f6;have H':=zqm H;clear H;have p8:wr.cell? ⟨a3,0,none⟩=some (.slice A0_0 l0_0.length c0_0):=(blk_cell a1.out 0).trans rfl;have p9:wr.cell? ⟨a3,1,none⟩=some (.slice A0_1 l0_1.length c0_1):=(blk_cell a1.out 1).trans rfl;have r4:=blk_frozen a1.out 0;have r5:=blk_frozen a1.out 1;have c0:0≤(a0:Int):=zqo;have c2:a0<(l0_0.length:Int):=zqo;obtain⟨f3,h1,h2,f8,a7,b1,b0⟩:=at_L2 a6.out a0 c0 c2
                     cases f8
                     replace a7:=(HB.out.cell (World.block_lt_of_cell? w _ a7)).trans a7;have c4:=zqm b0;have g1:=zqm b1;clear b0 b1;replace c0:=eq_true c0;replace c2:=eq_true c2;have c1:0≤(a2:Int):=zqo;have c3:a2<((rd_L2 l0_0 a0).length:Int):=zqo;obtain⟨j1,f9,a8⟩:=Kd.at_int c4.out a2 c1 c3
                     cases f9
                     replace a8:=(HB.out.cell (World.block_lt_of_cell? w _ a8)).trans a8;replace c1:=eq_true c1;replace c3:=eq_true c3
                     go_wp2
                     repeat(go_quiet (fail);try go_wp2)
                     go_roundg k5
                     (case measure=> exact zq84);case rel=>exact⟨(wrap64 (a2+1)),zq6,H',⟨zq84⟩,⟨zqe a1.out⟩,⟨zq12⟩⟩
                   ·rw [if_neg k8] at H;exact absurd H (by simp)
                  ·rw [if_neg k7] at H;exact absurd H (by simp)
                 ·rw [if_neg k6] at H;exact absurd H (by simp)
                ·rw [if_neg k4] at H;exact absurd H (by simp)
               ·rw [if_neg g5] at H;have n5:decide (a2<(l0_0.length:Int))=false:=decide_eq_false g5;clear g5;have H':=zqm H;clear H
                go_wp2
                repeat(go_quiet (fail);try go_wp2)
                go_roundg k5
                (case measure=> exact zq84);case rel=>exact⟨(wrap64 (a0+1)),zq6,H',⟨zq84⟩,⟨zqe a1.out⟩,⟨zq12⟩⟩
         ·rw [if_neg g4] at H;have n2:decide (a0<(l0_0.length:Int))=false:=decide_eq_false g4;clear g4;obtain rfl:=Option.some.inj H
          go_wp2
          repeat(go_quiet (fail);try go_wp2)
          go_ret
          exact⟨zq17,zq12⟩
end
section
attribute [local go_sem] max2_int min2_int max_two min_two max_three min_three max_four min_four
def spec_l5With.f (k : Nat) (l0_0 : List (List Int)) (l0_1 : List Int) (a1 : Int) (a2 : Int) : Option (Bool) := (spec_l1Meet.f k l0_0 a1 a2).bind fun t512 => (if 0 ≤ a2 then (if a2 < (l0_1.length : Int) then ((spec_l1Meet.f k l0_0 a1 (rd l0_1 a2)).bind fun t514 => ((spec_l1Join.f k l0_0 t512 t514).bind fun t515 => (some (t515 == a1)))) else (none)) else (none))
set_option maxHeartbeats 8000000 in
set_option maxRecDepth 100000 in
theorem spec_l5With.calls (k : Nat) (A0_0 : Option Addr) (c0_0 : Nat) (l0_0 : List (List Int)) (A0_1 : Option Addr) (c0_1 : Nat) (l0_1 : List Int) (a1 : Int) (a2 : Int) (r : Bool) (w : World) (hr0_0 : Kd.C (Kd.slice 3 (Kd.int .i64)) w A0_0 l0_0.length l0_0) (hc0_0 : l0_0.length ≤ c0_0) (hr0_1 : Kd.C (Kd.int .i64) w A0_1 l0_1.length l0_1) (hc0_1 : l0_1.length ≤ c0_1) (h : spec_l5With.f k l0_0 l0_1 a1 a2 = some r) :
  Calls Try.prog 38 #[.agg #[.slice A0_0 l0_0.length c0_0, .slice A0_1 l0_1.length c0_1], .int .i64 a1, .int .i64 a2] w fun e w' => e = .returned (.bool r) ∧ Below w.heap.size w w' := by
 have hu26:=Try.underlying26;have a7:=zqm hr0_0;have a6:=zqm hc0_0;clear hr0_0 hc0_0;have b9:=zqm hr0_1;have c7:=zqm hc0_1;clear hr0_1 hc0_1;have HB:=zqm (Below.refl w.heap.size w);have H:((spec_l1Meet.f k l0_0 a1 a2).bind fun b0=>(if 0≤a2 then(if a2<(l0_1.length:Int) then((spec_l1Meet.f k l0_0 a1 (rd l0_1 a2)).bind fun b1=>((spec_l1Join.f k l0_0 b0 b1).bind fun b4=>(some (b4==a1)))) else(none)) else(none)))=some r:=h;clear h;replace H:=Option.bind_eq_some_iff.mp H;obtain⟨b0,c2,H⟩:=H;(try dsimp only at H);have A4:=zqm c2;clear c2
 by_cases c5:0≤a2
 ·rw [if_pos c5] at H;have c8:decide (0≤a2)=true:=decide_eq_true c5;clear c5
  by_cases c6:a2<(l0_1.length:Int)
  ·rw [if_pos c6] at H;have c9:decide (a2<(l0_1.length:Int))=true:=decide_eq_true c6;clear c6;replace H:=Option.bind_eq_some_iff.mp H;obtain⟨b1,c3,H⟩:=H;(try dsimp only at H);have A7:=zqm c3;clear c3;replace H:=Option.bind_eq_some_iff.mp H;obtain⟨b4,c4,H⟩:=H;(try dsimp only at H);have A8:=zqm c4;clear c4;obtain rfl:=Option.some.inj H
   go_enter Try.func38,Try.ntmps38
   go_wp2_with (first|((with_reducible refine gate_dst (N:=3) rfl ?_);refine box_event ?hg (N:=3) ?hd (cs:= #[.slice A0_0 l0_0.length c0_0,.slice A0_1 l0_1.length c0_1]) (t:=26) ?hr ?_;(case hd=>rfl);(case hg=>rfl);(case hr=> exact zq15);intro a4 hg w9 hbox hb;have b2:=zqm (below_step zq2 hb);have a3:=zqm (hbox);have c0:=zqm ((by rw [hg];exact(below_size zq2):w.heap.size≤a4));have a5:=zqm ((by rw [hg];exact(below_size zq2):w.heap.size≤a4));clear HB;have HB:=b2;clear b2 hb hbox hg;have b5:w9.cell? ⟨a4,0,none⟩=some (.slice A0_0 l0_0.length c0_0):=(blk_cell a3.out 0).trans rfl;have b6:w9.cell? ⟨a4,1,none⟩=some (.slice A0_1 l0_1.length c0_1):=(blk_cell a3.out 1).trans rfl;have b7:=blk_frozen a3.out 0;have b8:=blk_frozen a3.out 1)|(go_at_call 25;(with_reducible refine(spec_l1Meet.calls k _ _ l0_0 a1 a2 b0 _ ?side1 ?side2 A4.out).mono ?_);(case side1=> exact zq33);(case side2=>exact a6.out);rintro e w' ⟨rfl,⟨nd,rfl⟩⟩;(try first|exact⟨rfl,_,World.drewN_drewN _ _ _⟩|exact⟨rfl,_,Eq.trans (World.drewN_drewN _ _ _) (congrArg (World.drewN _) (Nat.add_assoc _ _ _))⟩);have a8:0≤(a2:Int):=zqo;have a9:a2<(l0_1.length:Int):=zqo;obtain⟨c1,b3,a0⟩:=Kd.at_int b9.out a2 a8 a9;cases b3;replace a0:=(HB.out.cell (World.block_lt_of_cell? w _ a0)).trans a0;replace a8:=eq_true a8;replace a9:=eq_true a9)|(go_at_call 25;(with_reducible refine(spec_l1Meet.calls k _ _ l0_0 a1 (rd l0_1 a2) b1 _ ?side1 ?side2 A7.out).mono ?_);(case side1=> exact zq25);(case side2=>exact a6.out);rintro e w' ⟨rfl,⟨nd,rfl⟩⟩;(try first|exact⟨rfl,_,World.drewN_drewN _ _ _⟩|exact⟨rfl,_,Eq.trans (World.drewN_drewN _ _ _) (congrArg (World.drewN _) (Nat.add_assoc _ _ _))⟩))|(go_at_call 24;(with_reducible refine(spec_l1Join.calls k _ _ l0_0 b0 b1 b4 _ ?side1 ?side2 A8.out).mono ?_);(case side1=> exact zq25);(case side2=>exact a6.out);rintro e w' ⟨rfl,⟨nd,rfl⟩⟩;(try first|exact⟨rfl,_,World.drewN_drewN _ _ _⟩|exact⟨rfl,_,Eq.trans (World.drewN_drewN _ _ _) (congrArg (World.drewN _) (Nat.add_assoc _ _ _))⟩)))
   repeat(go_quiet (first|((with_reducible refine gate_dst (N:=3) rfl ?_);refine box_event ?hg (N:=3) ?hd (cs:= #[.slice A0_0 l0_0.length c0_0,.slice A0_1 l0_1.length c0_1]) (t:=26) ?hr ?_;(case hd=>rfl);(case hg=>rfl);(case hr=> exact zq15);intro a4 hg w9 hbox hb;have b2:=zqm (below_step zq2 hb);have a3:=zqm (hbox);have c0:=zqm ((by rw [hg];exact(below_size zq2):w.heap.size≤a4));have a5:=zqm ((by rw [hg];exact(below_size zq2):w.heap.size≤a4));clear HB;have HB:=b2;clear b2 hb hbox hg;have b5:w9.cell? ⟨a4,0,none⟩=some (.slice A0_0 l0_0.length c0_0):=(blk_cell a3.out 0).trans rfl;have b6:w9.cell? ⟨a4,1,none⟩=some (.slice A0_1 l0_1.length c0_1):=(blk_cell a3.out 1).trans rfl;have b7:=blk_frozen a3.out 0;have b8:=blk_frozen a3.out 1)|(go_at_call 25;(with_reducible refine(spec_l1Meet.calls k _ _ l0_0 a1 a2 b0 _ ?side1 ?side2 A4.out).mono ?_);(case side1=> exact zq33);(case side2=>exact a6.out);rintro e w' ⟨rfl,⟨nd,rfl⟩⟩;(try first|exact⟨rfl,_,World.drewN_drewN _ _ _⟩|exact⟨rfl,_,Eq.trans (World.drewN_drewN _ _ _) (congrArg (World.drewN _) (Nat.add_assoc _ _ _))⟩);have a8:0≤(a2:Int):=zqo;have a9:a2<(l0_1.length:Int):=zqo;obtain⟨c1,b3,a0⟩:=Kd.at_int b9.out a2 a8 a9;cases b3;replace a0:=(HB.out.cell (World.block_lt_of_cell? w _ a0)).trans a0;replace a8:=eq_true a8;replace a9:=eq_true a9)|(go_at_call 25;(with_reducible refine(spec_l1Meet.calls k _ _ l0_0 a1 (rd l0_1 a2) b1 _ ?side1 ?side2 A7.out).mono ?_);(case side1=> exact zq25);(case side2=>exact a6.out);rintro e w' ⟨rfl,⟨nd,rfl⟩⟩;(try first|exact⟨rfl,_,World.drewN_drewN _ _ _⟩|exact⟨rfl,_,Eq.trans (World.drewN_drewN _ _ _) (congrArg (World.drewN _) (Nat.add_assoc _ _ _))⟩))|(go_at_call 24;(with_reducible refine(spec_l1Join.calls k _ _ l0_0 b0 b1 b4 _ ?side1 ?side2 A8.out).mono ?_);(case side1=> exact zq25);(case side2=>exact a6.out);rintro e w' ⟨rfl,⟨nd,rfl⟩⟩;(try first|exact⟨rfl,_,World.drewN_drewN _ _ _⟩|exact⟨rfl,_,Eq.trans (World.drewN_drewN _ _ _) (congrArg (World.drewN _) (Nat.add_assoc _ _ _))⟩)));try go_wp2_with (first|((with_reducible refine gate_dst (N:=3) rfl ?_);refine box_event ?hg (N:=3) ?hd (cs:= #[.slice A0_0 l0_0.length c0_0,.slice A0_1 l0_1.length c0_1]) (t:=26) ?hr ?_;(case hd=>rfl);(case hg=>rfl);(case hr=> exact zq15);intro a4 hg w9 hbox hb;have b2:=zqm (below_step zq2 hb);have a3:=zqm (hbox);have c0:=zqm ((by rw [hg];exact(below_size zq2):w.heap.size≤a4));have a5:=zqm ((by rw [hg];exact(below_size zq2):w.heap.size≤a4));clear HB;have HB:=b2;clear b2 hb hbox hg;have b5:w9.cell? ⟨a4,0,none⟩=some (.slice A0_0 l0_0.length c0_0):=(blk_cell a3.out 0).trans rfl;have b6:w9.cell? ⟨a4,1,none⟩=some (.slice A0_1 l0_1.length c0_1):=(blk_cell a3.out 1).trans rfl;have b7:=blk_frozen a3.out 0;have b8:=blk_frozen a3.out 1)|(go_at_call 25;(with_reducible refine(spec_l1Meet.calls k _ _ l0_0 a1 a2 b0 _ ?side1 ?side2 A4.out).mono ?_);(case side1=> exact zq33);(case side2=>exact a6.out);rintro e w' ⟨rfl,⟨nd,rfl⟩⟩;(try first|exact⟨rfl,_,World.drewN_drewN _ _ _⟩|exact⟨rfl,_,Eq.trans (World.drewN_drewN _ _ _) (congrArg (World.drewN _) (Nat.add_assoc _ _ _))⟩);have a8:0≤(a2:Int):=zqo;have a9:a2<(l0_1.length:Int):=zqo;obtain⟨c1,b3,a0⟩:=Kd.at_int b9.out a2 a8 a9;cases b3;replace a0:=(HB.out.cell (World.block_lt_of_cell? w _ a0)).trans a0;replace a8:=eq_true a8;replace a9:=eq_true a9)|(go_at_call 25;(with_reducible refine(spec_l1Meet.calls k _ _ l0_0 a1 (rd l0_1 a2) b1 _ ?side1 ?side2 A7.out).mono ?_);(case side1=> exact zq25);(case side2=>exact a6.out);rintro e w' ⟨rfl,⟨nd,rfl⟩⟩;(try first|exact⟨rfl,_,World.drewN_drewN _ _ _⟩|exact⟨rfl,_,Eq.trans (World.drewN_drewN _ _ _) (congrArg (World.drewN _) (Nat.add_assoc _ _ _))⟩))|(go_at_call 24;(with_reducible refine(spec_l1Join.calls k _ _ l0_0 b0 b1 b4 _ ?side1 ?side2 A8.out).mono ?_);(case side1=> exact zq25);(case side2=>exact a6.out);rintro e w' ⟨rfl,⟨nd,rfl⟩⟩;(try first|exact⟨rfl,_,World.drewN_drewN _ _ _⟩|exact⟨rfl,_,Eq.trans (World.drewN_drewN _ _ _) (congrArg (World.drewN _) (Nat.add_assoc _ _ _))⟩))))
   go_ret
   exact⟨zq17,zq12⟩
  ·rw [if_neg c6] at H;exact absurd H (by simp)
 ·rw [if_neg c5] at H;exact absurd H (by simp)
end
section
attribute [local go_sem] max2_int min2_int max_two min_two max_three min_three max_four min_four
def spec_l6Agree.f (k : Nat) (l0_0 : List (List Int)) (l0_1 : List Int) (a1 : Int) (a2 : Int) : Option (Bool) := (spec_l5With.f k l0_0 l0_1 a1 a2).bind fun t517 => (if t517 = true then ((spec_l5With.f k l0_0 l0_1 a2 a1).bind fun t518 => (some t518)) else (some false))
set_option maxHeartbeats 8000000 in
set_option maxRecDepth 100000 in
theorem spec_l6Agree.calls (k : Nat) (A0_0 : Option Addr) (c0_0 : Nat) (l0_0 : List (List Int)) (A0_1 : Option Addr) (c0_1 : Nat) (l0_1 : List Int) (a1 : Int) (a2 : Int) (r : Bool) (w : World) (hr0_0 : Kd.C (Kd.slice 3 (Kd.int .i64)) w A0_0 l0_0.length l0_0) (hc0_0 : l0_0.length ≤ c0_0) (hr0_1 : Kd.C (Kd.int .i64) w A0_1 l0_1.length l0_1) (hc0_1 : l0_1.length ≤ c0_1) (h : spec_l6Agree.f k l0_0 l0_1 a1 a2 = some r) :
  Calls Try.prog 22 #[.agg #[.slice A0_0 l0_0.length c0_0, .slice A0_1 l0_1.length c0_1], .int .i64 a1, .int .i64 a2] w fun e w' => e = .returned (.bool r) ∧ Below w.heap.size w w' := by
 have hu26:=Try.underlying26;have a7:=zqm hr0_0;have a5:=zqm hc0_0;clear hr0_0 hc0_0;have a8:=zqm hr0_1;have a6:=zqm hc0_1;clear hr0_1 hc0_1;have HB:=zqm (Below.refl w.heap.size w);have H:((spec_l5With.f k l0_0 l0_1 a1 a2).bind fun b0=>(if b0=true then((spec_l5With.f k l0_0 l0_1 a2 a1).bind fun b1=>(some b1)) else(some false)))=some r:=h;clear h;replace H:=Option.bind_eq_some_iff.mp H;obtain⟨b0,b3,H⟩:=H;(try dsimp only at H);have A4:=zqm b3;clear b3
 by_cases c5:b0=true
 ·subst c5;rw [if_pos rfl] at H;replace H:=Option.bind_eq_some_iff.mp H;obtain⟨b1,b4,H⟩:=H;(try dsimp only at H);have A6:=zqm b4;clear b4;obtain rfl:=Option.some.inj H
  go_enter Try.func22,Try.ntmps22
  go_wp2_with (first|((with_reducible refine gate_dst (N:=3) rfl ?_);refine box_event ?hg (N:=3) ?hd (cs:= #[.slice A0_0 l0_0.length c0_0,.slice A0_1 l0_1.length c0_1]) (t:=26) ?hr ?_;(case hd=>rfl);(case hg=>rfl);(case hr=> exact zq15);intro a3 hg w7 hbox hb;have a9:=zqm (below_step zq2 hb);have a0:=zqm (hbox);have b2:=zqm ((by rw [hg];exact(below_size zq2):w.heap.size≤a3));have a4:=zqm ((by rw [hg];exact(below_size zq2):w.heap.size≤a3));clear HB;have HB:=a9;clear a9 hb hbox hg;have c4:w7.cell? ⟨a3,0,none⟩=some (.slice A0_0 l0_0.length c0_0):=(blk_cell a0.out 0).trans rfl;have c6:w7.cell? ⟨a3,1,none⟩=some (.slice A0_1 l0_1.length c0_1):=(blk_cell a0.out 1).trans rfl;have c7:=blk_frozen a0.out 0;have c8:=blk_frozen a0.out 1)|((with_reducible refine gate_callee (f:=38) rfl ?_);refine goesL_ (some 10) rfl rfl Try.func38 zqk rfl #[.agg #[.slice A0_0 l0_0.length c0_0,.slice A0_1 l0_1.length c0_1],.int .i64 a1,.int .i64 a2] rfl zq5 ?_;(with_reducible refine(spec_l5With.calls k _ _ l0_0 _ _ l0_1 a1 a2 true _ ?side1 ?side2 ?side3 ?side4 A4.out).mono ?_);(case side1=> exact zq33);(case side2=>exact a5.out);(case side3=> exact zq68);(case side4=>exact a6.out);rintro e w9 ⟨rfl,hb⟩;refine⟨_,rfl,?_⟩;replace a0:=zqm (blk_below (g:=a3) (o:= .cells #[.slice A0_0 l0_0.length c0_0,.slice A0_1 l0_1.length c0_1] 26 (0,0)) (zqe a0.out) hb);replace HB:=zqm (below_step zq10 hb);clear hb;have b6:w9.cell? ⟨a3,0,none⟩=some (.slice A0_0 l0_0.length c0_0):=(blk_cell a0.out 0).trans rfl;have b7:w9.cell? ⟨a3,1,none⟩=some (.slice A0_1 l0_1.length c0_1):=(blk_cell a0.out 1).trans rfl;have c0:=blk_frozen a0.out 0;have c1:=blk_frozen a0.out 1)|(go_at_call 38;(with_reducible refine(spec_l5With.calls k _ _ l0_0 _ _ l0_1 a2 a1 b1 _ ?side1 ?side2 ?side3 ?side4 A6.out).mono ?_);(case side1=> exact zq33);(case side2=>exact a5.out);(case side3=> exact zq68);(case side4=>exact a6.out);rintro e c9 ⟨rfl,hb⟩;replace a0:=zqm (blk_below (g:=a3) (o:= .cells #[.slice A0_0 l0_0.length c0_0,.slice A0_1 l0_1.length c0_1] 26 (0,0)) (zqe a0.out) hb);replace HB:=zqm (below_step zq10 hb);clear hb))
  go_ret
  exact⟨zq17,zq10⟩
 ·replace c5:=Bool.eq_false_iff.mpr c5;subst c5;rw [if_neg (show¬(false=true) by decide)] at H;obtain rfl:=Option.some.inj H
  go_enter Try.func22,Try.ntmps22
  go_wp2_with (first|((with_reducible refine gate_dst (N:=3) rfl ?_);refine box_event ?hg (N:=3) ?hd (cs:= #[.slice A0_0 l0_0.length c0_0,.slice A0_1 l0_1.length c0_1]) (t:=26) ?hr ?_;(case hd=>rfl);(case hg=>rfl);(case hr=> exact zq15);intro a3 hg b5 hbox hb;have a9:=zqm (below_step zq2 hb);have a0:=zqm (hbox);have b2:=zqm ((by rw [hg];exact(below_size zq2):w.heap.size≤a3));have a4:=zqm ((by rw [hg];exact(below_size zq2):w.heap.size≤a3));clear HB;have HB:=a9;clear a9 hb hbox hg;have b8:b5.cell? ⟨a3,0,none⟩=some (.slice A0_0 l0_0.length c0_0):=(blk_cell a0.out 0).trans rfl;have b9:b5.cell? ⟨a3,1,none⟩=some (.slice A0_1 l0_1.length c0_1):=(blk_cell a0.out 1).trans rfl;have c2:=blk_frozen a0.out 0;have c3:=blk_frozen a0.out 1)|((with_reducible refine gate_callee (f:=38) rfl ?_);refine goesL_ (some 10) rfl rfl Try.func38 zqk rfl #[.agg #[.slice A0_0 l0_0.length c0_0,.slice A0_1 l0_1.length c0_1],.int .i64 a1,.int .i64 a2] rfl zq5 ?_;(with_reducible refine(spec_l5With.calls k _ _ l0_0 _ _ l0_1 a1 a2 false _ ?side1 ?side2 ?side3 ?side4 A4.out).mono ?_);(case side1=> exact zq33);(case side2=>exact a5.out);(case side3=> exact zq68);(case side4=>exact a6.out);rintro e d0 ⟨rfl,hb⟩;refine⟨_,rfl,?_⟩;replace a0:=zqm (blk_below (g:=a3) (o:= .cells #[.slice A0_0 l0_0.length c0_0,.slice A0_1 l0_1.length c0_1] 26 (0,0)) (zqe a0.out) hb);replace HB:=zqm (below_step zq10 hb);clear hb))
  go_ret
  exact⟨zq17,zq10⟩
end
end Go.Proofs.Ytmbapglhkbpokaa.Print
end
